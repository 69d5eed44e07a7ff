/-
What is proved: the starter's way through impl.entriesOf and impl.ask: reckoned by the kernel: which steps are silent, which touch memory. No condition.
-/
import Derived.Test.YtjklkppncmhehaaGreatRa21
import Derived.Test.YtjklkppncmhehaaGreatRa10
import Derived.Test.YtjklkppncmhehaaGreatRa16
import Derived.Test.YtjklkppncmhehaaGreatRa17
set_option linter.unusedVariables false
set_option linter.unusedSimpArgs false
namespace Go.Proofs.YtjklkppncmhehaaGreat.Sr
open Go Go.Conc
def nx (P:Program)(r:Nat)(g:Goroutine):Goroutine:=match cz P r g with|some (g',_)=>g'|none=>g
def sx (P:Program)(g:Goroutine):Goroutine:=match iL P g with|some (g',_)=>g'|none=>g
def Q5 (P:Program)(ga:Addr)(gl gc sb so sc:Nat)(ms:Int)(N n:Nat)(c:Frame)(cs:List Frame):Goroutine:={frame:=Frame.enter P 69 #[.slice (some ga) gl gc,.slice (some ⟨sb,so,none⟩) n sc,.int .i64 ms] .normal,callers:=c::cs,status:= .running,dying:=none}
def HX (P:Program)(ga:Addr)(gl gc sb so sc:Nat)(ms:Int)(N n:Nat)(c:Frame)(cs:List Frame):Goroutine:=aE P 2 (Q5 P ga gl gc sb so sc ms N n c cs)
def Ex (P:Program)(ga:Addr)(gl gc sb so sc:Nat)(ms:Int)(N n:Nat)(c:Frame)(cs:List Frame):Goroutine:=nx P N (HX P ga gl gc sb so sc ms N n c cs)
def LL (P:Program)(ga:Addr)(gl gc sb so sc:Nat)(ms:Int)(N n:Nat)(c:Frame)(cs:List Frame):Goroutine:=aE P 9 (nx P (N+1) (Ex P ga gl gc sb so sc ms N n c cs))
def AH (P:Program)(ga:Addr)(gl gc sb so sc:Nat)(ms:Int)(N n:Nat)(c:Frame)(cs:List Frame):Goroutine:=aE P 6 (nx P (N+2) (LL P ga gl gc sb so sc ms N n c cs))
def tf (P:Program)(ga:Addr)(gl gc sb so sc:Nat)(ms:Int)(N n:Nat)(c:Frame)(cs:List Frame):Goroutine:=nx P (N+3) (AH P ga gl gc sb so sc ms N n c cs)
def iB (P:Program)(ga:Addr)(gl gc sb so sc:Nat)(ms:Int)(N n:Nat)(c:Frame)(cs:List Frame):Goroutine:=nx P (N+4) (tf P ga gl gc sb so sc ms N n c cs)
def kL (P:Program)(ga:Addr)(gl gc sb so sc:Nat)(ms:Int)(N n:Nat)(c:Frame)(cs:List Frame):Goroutine:=aE P 3 (sx P (iB P ga gl gc sb so sc ms N n c cs))
def AI (P:Program)(ga:Addr)(gl gc sb so sc:Nat)(ms:Int)(N n:Nat)(c:Frame)(cs:List Frame):Goroutine:=aE P 10 (nx P (N+5) (kL P ga gl gc sb so sc ms N n c cs))
def We:Addr:=⟨0,0,none⟩
def f51 (P:Program)(ga:Addr)(gl gc sb so sc:Nat)(ms:Int)(N n:Nat):Frame:=match(AH P ga gl gc sb so sc ms N n default []).callers with
 |f::_=>f
 |[]=>default
def Ey (N:Nat):Value:= .func (.func 121) #[] #[ptr N,ptr (N+1)]
def YU (ga:Addr)(gl gc sb so sc:Nat)(ms:Int)(N n:Nat)(i:Int)(x:Nat→Value)(todo:List Item):Frame:=
 {fn:=120,tmps:= #[.slice (some ⟨sb,so,none⟩) n sc,Ey N,undef,ptr (N+2),.slice none 0 0,ptr (N+4),ptr (N+5),x 0,x 1,.slice (some ⟨sb,so,none⟩) n sc,.int .i64 n,.slice (some ⟨N+3,0,none⟩) n n,.slice (some ⟨sb,so,none⟩) n sc,.int .i64 n,.int .i64 i,
   x 2,x 3,x 4,x 5,x 6,x 7,x 8,x 9,x 10],todo,defers:=[],mode:= .run,kind:= .normal}
def uK (P:Program)(ga:Addr)(gl gc sb so sc:Nat)(ms:Int)(N n:Nat)(c:Frame)(cs:List Frame):List Frame:=f51 P ga gl gc sb so sc ms N n::c::cs
def cm (P:Program)(ga:Addr)(gl gc sb so sc:Nat)(ms:Int)(N n:Nat)(c:Frame)(cs:List Frame)(i:Int)(x:Nat→Value)(todo:List Item):Goroutine:={frame:=YU ga gl gc sb so sc ms N n i x todo,callers:=uK P ga gl gc sb so sc ms N n c cs,status:= .running,dying:=none}
def cp (P:Program):List Item:=(AI P We 0 0 0 0 0 0 0 1 default []).frame.todo
def YV (P:Program):List Item:=(bf (aE P 13 (AI P We 0 0 0 0 0 0 0 1 default [])) (.int .i64 0)).frame.todo
def x0 (_:Nat):Value:=undef
def xl (x:Nat→Value)(i:Int)(a:Addr)(g:Int):Nat→Value
 |0=>x 0
 |1=>x 1
 |2=> .bool true
 |3=> .int .i64 i
 |4=> .pointer (some a)
 |5=> .int .i64 g
 |6=>x 6
 |7=>x 7
 |8=>x 8
 |9=>x 9
 |_=>x 10
def nZ (P:Program)(ga:Addr)(gl gc sb so sc:Nat)(ms:Int)(N n:Nat)(c:Frame)(cs:List Frame)(i:Int)(x:Nat→Value):Goroutine:=cm P ga gl gc sb so sc ms N n c cs i x (YV P)
def TL (P:Program)(ga:Addr)(gl gc sb so sc:Nat)(ms:Int)(N n:Nat)(c:Frame)(cs:List Frame)(i:Int)(x:Nat→Value)(r1:Nat):Goroutine:=nx P r1 (nZ P ga gl gc sb so sc ms N n c cs i x)
def TM (P:Program)(ga:Addr)(gl gc sb so sc:Nat)(ms:Int)(N n:Nat)(c:Frame)(cs:List Frame)(i:Int)(x:Nat→Value)(r1 r2:Nat):Goroutine:=nx P r2 (TL P ga gl gc sb so sc ms N n c cs i x r1)
def TN (P:Program)(ga:Addr)(gl gc sb so sc:Nat)(ms:Int)(N n:Nat)(c:Frame)(cs:List Frame)(i:Int)(x:Nat→Value)(r1 r2:Nat):Goroutine:=sx P (TM P ga gl gc sb so sc ms N n c cs i x r1 r2)
def Q6 (P:Program)(ga:Addr)(gl gc sb so sc:Nat)(ms:Int)(N n:Nat)(c:Frame)(cs:List Frame)(i:Int)(x:Nat→Value)(r1 r2:Nat):Goroutine:=sx P (TN P ga gl gc sb so sc ms N n c cs i x r1 r2)
def TP (P:Program)(ga:Addr)(gl gc sb so sc:Nat)(ms:Int)(N n:Nat)(c:Frame)(cs:List Frame)(i:Int)(x:Nat→Value)(r1 r2:Nat):Frame:=(aE P 3 (Q6 P ga gl gc sb so sc ms N n c cs i x r1 r2)).frame
def Q7 (P:Program)(ga:Addr)(gl gc sb so sc:Nat)(ms:Int)(N n:Nat)(c:Frame)(cs:List Frame)(i:Int)(x:Nat→Value)(r1 r2:Nat):Goroutine:=kh (TP P ga gl gc sb so sc ms N n c cs i x r1 r2) (uK P ga gl gc sb so sc ms N n c cs)
def px (P:Program)(g:Goroutine):Goroutine:=match AE P g with|some (g',_)=>g'|none=>g
def Q8 (P:Program)(ga:Addr)(gl gc sb so sc:Nat)(ms:Int)(N n:Nat)(c:Frame)(cs:List Frame)(i:Int)(x:Nat→Value)(r1 r2:Nat):Goroutine:=aE P 3 (Q7 P ga gl gc sb so sc ms N n c cs i x r1 r2)
def na (P:Program)(ga:Addr)(gl gc sb so sc:Nat)(ms:Int)(N n:Nat)(c:Frame)(cs:List Frame)(i:Int)(x:Nat→Value)(r1 r2:Nat):Goroutine:=px P (Q8 P ga gl gc sb so sc ms N n c cs i x r1 r2)
def xn (g:Goroutine):Nat→Value
 |0=>g.frame.tmps.getD 7 undef
 |1=>g.frame.tmps.getD 8 undef
 |k+2=>g.frame.tmps.getD (k+15) undef
def Ez (P:Program)(ga:Addr)(gl gc sb so sc:Nat)(ms:Int)(N n:Nat)(c:Frame)(cs:List Frame)(x:Nat→Value):Frame:=(aE P 9 (cm P ga gl gc sb so sc ms N n c cs n x (cp P))).frame
def AJ (P:Program)(ga:Addr)(gl gc sb so sc:Nat)(ms:Int)(N n:Nat)(c:Frame)(cs:List Frame)(x:Nat→Value):Goroutine:=kh (Ez P ga gl gc sb so sc ms N n c cs x) (uK P ga gl gc sb so sc ms N n c cs)
def jI (P:Program)(ga:Addr)(gl gc sb so sc:Nat)(ms:Int)(N n:Nat)(c:Frame)(cs:List Frame)(x:Nat→Value):Goroutine:=aE P 3 (AJ P ga gl gc sb so sc ms N n c cs x)
section
variable(ga:Addr)(gl gc sb so sc:Nat)(ms:Int)(N n:Nat)(c:Frame)(cs:List Frame)(i:Int)(x:Nat→Value)(r1 r2:Nat)
set_option maxRecDepth 100000
theorem LM:mute Tryz.prog 2 (Q5 Tryz.prog ga gl gc sb so sc ms N n c cs)=true:=by kernel_rfl
theorem EA:cz Tryz.prog N (HX Tryz.prog ga gl gc sb so sc ms N n c cs)=some (Ex Tryz.prog ga gl gc sb so sc ms N n c cs,#[],.cells #[.slice (some ga) gl gc] 23):=by kernel_rfl
theorem Ol:cz Tryz.prog (N+1) (Ex Tryz.prog ga gl gc sb so sc ms N n c cs)=some (nx Tryz.prog (N+1) (Ex Tryz.prog ga gl gc sb so sc ms N n c cs),#[],.cells #[.int .i64 ms] 3):=by kernel_rfl
theorem LN:mute Tryz.prog 9 (nx Tryz.prog (N+1) (Ex Tryz.prog ga gl gc sb so sc ms N n c cs))=true:=by kernel_rfl
theorem Om:cz Tryz.prog (N+2) (LL Tryz.prog ga gl gc sb so sc ms N n c cs)=some (nx Tryz.prog (N+2) (LL Tryz.prog ga gl gc sb so sc ms N n c cs),#[],.cells #[Ey N] 145):=by kernel_rfl
theorem LO:mute Tryz.prog 6 (nx Tryz.prog (N+2) (LL Tryz.prog ga gl gc sb so sc ms N n c cs))=true:=by kernel_rfl
theorem H9:cz Tryz.prog (N+3) (AH Tryz.prog ga gl gc sb so sc ms N 1 c cs)=some (tf Tryz.prog ga gl gc sb so sc ms N 1 c cs,#[],.cells #[.int .i64 0,.int .i64 0,.int .i64 0,.bool false,.bool false] 107):=by kernel_rfl
theorem H_:cz Tryz.prog (N+4) (tf Tryz.prog ga gl gc sb so sc ms N 1 c cs)=some (iB Tryz.prog ga gl gc sb so sc ms N 1 c cs,#[],.cells #[.slice none 0 0] 104):=by kernel_rfl
theorem H':iL Tryz.prog (iB Tryz.prog ga gl gc sb so sc ms N 1 c cs)=some (sx Tryz.prog (iB Tryz.prog ga gl gc sb so sc ms N 1 c cs),#[cD ⟨N+4,0,none⟩ true],[(⟨N+4,0,none⟩,.slice (some ⟨N+3,0,none⟩) 1 1)]):=by kernel_rfl
theorem EB:mute Tryz.prog 3 (sx Tryz.prog (iB Tryz.prog ga gl gc sb so sc ms N 1 c cs))=true:=by kernel_rfl
theorem Ia:cz Tryz.prog (N+5) (kL Tryz.prog ga gl gc sb so sc ms N 1 c cs)=some (nx Tryz.prog (N+5) (kL Tryz.prog ga gl gc sb so sc ms N 1 c cs),#[],.cells #[.int .u64 0,.int .u32 0] 191):=by kernel_rfl
theorem EC:mute Tryz.prog 10 (nx Tryz.prog (N+5) (kL Tryz.prog ga gl gc sb so sc ms N 1 c cs))=true:=by kernel_rfl
theorem ED:AI Tryz.prog ga gl gc sb so sc ms N 1 c cs=cm Tryz.prog ga gl gc sb so sc ms N 1 c cs 0 x0 (cp Tryz.prog):=by kernel_rfl
theorem AK:mute Tryz.prog 13 (cm Tryz.prog ga gl gc sb so sc ms N 1 c cs 0 x (cp Tryz.prog))=true:=by kernel_rfl
theorem AL (g:Int):dW Tryz.prog (.int .i64 g) (aE Tryz.prog 13 (cm Tryz.prog ga gl gc sb so sc ms N 1 c cs 0 x (cp Tryz.prog)))=some (nZ Tryz.prog ga gl gc sb so sc ms N 1 c cs 0 (xl x 0 ⟨sb,so+0,none⟩ g),#[cD ⟨sb,so+0,none⟩ false],[⟨sb,so+0,none⟩]):=by kernel_rfl
theorem Ib:mute Tryz.prog 10 (cm Tryz.prog ga gl gc sb so sc ms N 1 c cs 1 x (cp Tryz.prog))=true:=by kernel_rfl
theorem EE:aE Tryz.prog 10 (cm Tryz.prog ga gl gc sb so sc ms N 1 c cs 1 x (cp Tryz.prog))=Au Tryz.prog (N+5) (Ez Tryz.prog ga gl gc sb so sc ms N 1 c cs x) (uK Tryz.prog ga gl gc sb so sc ms N 1 c cs):=by kernel_rfl
theorem Ic:cz Tryz.prog (N+3) (AH Tryz.prog ga gl gc sb so sc ms N 2 c cs)=some (tf Tryz.prog ga gl gc sb so sc ms N 2 c cs,#[],.cells #[.int .i64 0,.int .i64 0,.int .i64 0,.bool false,.bool false,.int .i64 0,.int .i64 0,.int .i64 0,.bool false,.bool false] 107):=by kernel_rfl
theorem Ie:cz Tryz.prog (N+4) (tf Tryz.prog ga gl gc sb so sc ms N 2 c cs)=some (iB Tryz.prog ga gl gc sb so sc ms N 2 c cs,#[],.cells #[.slice none 0 0] 104):=by kernel_rfl
theorem Ig:iL Tryz.prog (iB Tryz.prog ga gl gc sb so sc ms N 2 c cs)=some (sx Tryz.prog (iB Tryz.prog ga gl gc sb so sc ms N 2 c cs),#[cD ⟨N+4,0,none⟩ true],[(⟨N+4,0,none⟩,.slice (some ⟨N+3,0,none⟩) 2 2)]):=by kernel_rfl
theorem EF:mute Tryz.prog 3 (sx Tryz.prog (iB Tryz.prog ga gl gc sb so sc ms N 2 c cs))=true:=by kernel_rfl
theorem Ih:cz Tryz.prog (N+5) (kL Tryz.prog ga gl gc sb so sc ms N 2 c cs)=some (nx Tryz.prog (N+5) (kL Tryz.prog ga gl gc sb so sc ms N 2 c cs),#[],.cells #[.int .u64 0,.int .u32 0] 191):=by kernel_rfl
theorem EG:mute Tryz.prog 10 (nx Tryz.prog (N+5) (kL Tryz.prog ga gl gc sb so sc ms N 2 c cs))=true:=by kernel_rfl
theorem EH:AI Tryz.prog ga gl gc sb so sc ms N 2 c cs=cm Tryz.prog ga gl gc sb so sc ms N 2 c cs 0 x0 (cp Tryz.prog):=by kernel_rfl
theorem AN:mute Tryz.prog 13 (cm Tryz.prog ga gl gc sb so sc ms N 2 c cs 0 x (cp Tryz.prog))=true:=by kernel_rfl
theorem AO (g:Int):dW Tryz.prog (.int .i64 g) (aE Tryz.prog 13 (cm Tryz.prog ga gl gc sb so sc ms N 2 c cs 0 x (cp Tryz.prog)))=some (nZ Tryz.prog ga gl gc sb so sc ms N 2 c cs 0 (xl x 0 ⟨sb,so+0,none⟩ g),#[cD ⟨sb,so+0,none⟩ false],[⟨sb,so+0,none⟩]):=by kernel_rfl
theorem AP:mute Tryz.prog 13 (cm Tryz.prog ga gl gc sb so sc ms N 2 c cs 1 x (cp Tryz.prog))=true:=by kernel_rfl
theorem AQ (g:Int):dW Tryz.prog (.int .i64 g) (aE Tryz.prog 13 (cm Tryz.prog ga gl gc sb so sc ms N 2 c cs 1 x (cp Tryz.prog)))=some (nZ Tryz.prog ga gl gc sb so sc ms N 2 c cs 1 (xl x 1 ⟨sb,so+1,none⟩ g),#[cD ⟨sb,so+1,none⟩ false],[⟨sb,so+1,none⟩]):=by kernel_rfl
theorem Ii:mute Tryz.prog 10 (cm Tryz.prog ga gl gc sb so sc ms N 2 c cs 2 x (cp Tryz.prog))=true:=by kernel_rfl
theorem EI:aE Tryz.prog 10 (cm Tryz.prog ga gl gc sb so sc ms N 2 c cs 2 x (cp Tryz.prog))=Au Tryz.prog (N+5) (Ez Tryz.prog ga gl gc sb so sc ms N 2 c cs x) (uK Tryz.prog ga gl gc sb so sc ms N 2 c cs):=by kernel_rfl
theorem Ij:cz Tryz.prog (N+3) (AH Tryz.prog ga gl gc sb so sc ms N 3 c cs)=some (tf Tryz.prog ga gl gc sb so sc ms N 3 c cs,#[],.cells #[.int .i64 0,.int .i64 0,.int .i64 0,.bool false,.bool false,.int .i64 0,.int .i64 0,.int .i64 0,.bool false,.bool false,.int .i64 0,.int .i64 0,.int .i64 0,.bool false,.bool false] 107):=by kernel_rfl
theorem Ik:cz Tryz.prog (N+4) (tf Tryz.prog ga gl gc sb so sc ms N 3 c cs)=some (iB Tryz.prog ga gl gc sb so sc ms N 3 c cs,#[],.cells #[.slice none 0 0] 104):=by kernel_rfl
theorem Il:iL Tryz.prog (iB Tryz.prog ga gl gc sb so sc ms N 3 c cs)=some (sx Tryz.prog (iB Tryz.prog ga gl gc sb so sc ms N 3 c cs),#[cD ⟨N+4,0,none⟩ true],[(⟨N+4,0,none⟩,.slice (some ⟨N+3,0,none⟩) 3 3)]):=by kernel_rfl
theorem EJ:mute Tryz.prog 3 (sx Tryz.prog (iB Tryz.prog ga gl gc sb so sc ms N 3 c cs))=true:=by kernel_rfl
theorem Im:cz Tryz.prog (N+5) (kL Tryz.prog ga gl gc sb so sc ms N 3 c cs)=some (nx Tryz.prog (N+5) (kL Tryz.prog ga gl gc sb so sc ms N 3 c cs),#[],.cells #[.int .u64 0,.int .u32 0] 191):=by kernel_rfl
theorem EK:mute Tryz.prog 10 (nx Tryz.prog (N+5) (kL Tryz.prog ga gl gc sb so sc ms N 3 c cs))=true:=by kernel_rfl
theorem EL:AI Tryz.prog ga gl gc sb so sc ms N 3 c cs=cm Tryz.prog ga gl gc sb so sc ms N 3 c cs 0 x0 (cp Tryz.prog):=by kernel_rfl
theorem AT:mute Tryz.prog 13 (cm Tryz.prog ga gl gc sb so sc ms N 3 c cs 0 x (cp Tryz.prog))=true:=by kernel_rfl
theorem AU (g:Int):dW Tryz.prog (.int .i64 g) (aE Tryz.prog 13 (cm Tryz.prog ga gl gc sb so sc ms N 3 c cs 0 x (cp Tryz.prog)))=some (nZ Tryz.prog ga gl gc sb so sc ms N 3 c cs 0 (xl x 0 ⟨sb,so+0,none⟩ g),#[cD ⟨sb,so+0,none⟩ false],[⟨sb,so+0,none⟩]):=by kernel_rfl
theorem AV:mute Tryz.prog 13 (cm Tryz.prog ga gl gc sb so sc ms N 3 c cs 1 x (cp Tryz.prog))=true:=by kernel_rfl
theorem AW (g:Int):dW Tryz.prog (.int .i64 g) (aE Tryz.prog 13 (cm Tryz.prog ga gl gc sb so sc ms N 3 c cs 1 x (cp Tryz.prog)))=some (nZ Tryz.prog ga gl gc sb so sc ms N 3 c cs 1 (xl x 1 ⟨sb,so+1,none⟩ g),#[cD ⟨sb,so+1,none⟩ false],[⟨sb,so+1,none⟩]):=by kernel_rfl
theorem AX:mute Tryz.prog 13 (cm Tryz.prog ga gl gc sb so sc ms N 3 c cs 2 x (cp Tryz.prog))=true:=by kernel_rfl
theorem AY (g:Int):dW Tryz.prog (.int .i64 g) (aE Tryz.prog 13 (cm Tryz.prog ga gl gc sb so sc ms N 3 c cs 2 x (cp Tryz.prog)))=some (nZ Tryz.prog ga gl gc sb so sc ms N 3 c cs 2 (xl x 2 ⟨sb,so+2,none⟩ g),#[cD ⟨sb,so+2,none⟩ false],[⟨sb,so+2,none⟩]):=by kernel_rfl
theorem Io:mute Tryz.prog 10 (cm Tryz.prog ga gl gc sb so sc ms N 3 c cs 3 x (cp Tryz.prog))=true:=by kernel_rfl
theorem EM:aE Tryz.prog 10 (cm Tryz.prog ga gl gc sb so sc ms N 3 c cs 3 x (cp Tryz.prog))=Au Tryz.prog (N+5) (Ez Tryz.prog ga gl gc sb so sc ms N 3 c cs x) (uK Tryz.prog ga gl gc sb so sc ms N 3 c cs):=by kernel_rfl
theorem Ip:cz Tryz.prog (N+3) (AH Tryz.prog ga gl gc sb so sc ms N 4 c cs)=some (tf Tryz.prog ga gl gc sb so sc ms N 4 c cs,#[],.cells #[.int .i64 0,.int .i64 0,.int .i64 0,.bool false,.bool false,.int .i64 0,.int .i64 0,.int .i64 0,.bool false,.bool false,.int .i64 0,.int .i64 0,.int .i64 0,.bool false,.bool false,.int .i64 0,.int .i64 0,.int .i64 0,.bool false,.bool false] 107):=by kernel_rfl
theorem Iq:cz Tryz.prog (N+4) (tf Tryz.prog ga gl gc sb so sc ms N 4 c cs)=some (iB Tryz.prog ga gl gc sb so sc ms N 4 c cs,#[],.cells #[.slice none 0 0] 104):=by kernel_rfl
theorem Ir:iL Tryz.prog (iB Tryz.prog ga gl gc sb so sc ms N 4 c cs)=some (sx Tryz.prog (iB Tryz.prog ga gl gc sb so sc ms N 4 c cs),#[cD ⟨N+4,0,none⟩ true],[(⟨N+4,0,none⟩,.slice (some ⟨N+3,0,none⟩) 4 4)]):=by kernel_rfl
theorem EN:mute Tryz.prog 3 (sx Tryz.prog (iB Tryz.prog ga gl gc sb so sc ms N 4 c cs))=true:=by kernel_rfl
theorem Is:cz Tryz.prog (N+5) (kL Tryz.prog ga gl gc sb so sc ms N 4 c cs)=some (nx Tryz.prog (N+5) (kL Tryz.prog ga gl gc sb so sc ms N 4 c cs),#[],.cells #[.int .u64 0,.int .u32 0] 191):=by kernel_rfl
theorem EO:mute Tryz.prog 10 (nx Tryz.prog (N+5) (kL Tryz.prog ga gl gc sb so sc ms N 4 c cs))=true:=by kernel_rfl
theorem EP:AI Tryz.prog ga gl gc sb so sc ms N 4 c cs=cm Tryz.prog ga gl gc sb so sc ms N 4 c cs 0 x0 (cp Tryz.prog):=by kernel_rfl
theorem AZ:mute Tryz.prog 13 (cm Tryz.prog ga gl gc sb so sc ms N 4 c cs 0 x (cp Tryz.prog))=true:=by kernel_rfl
theorem A0 (g:Int):dW Tryz.prog (.int .i64 g) (aE Tryz.prog 13 (cm Tryz.prog ga gl gc sb so sc ms N 4 c cs 0 x (cp Tryz.prog)))=some (nZ Tryz.prog ga gl gc sb so sc ms N 4 c cs 0 (xl x 0 ⟨sb,so+0,none⟩ g),#[cD ⟨sb,so+0,none⟩ false],[⟨sb,so+0,none⟩]):=by kernel_rfl
theorem A_:mute Tryz.prog 13 (cm Tryz.prog ga gl gc sb so sc ms N 4 c cs 1 x (cp Tryz.prog))=true:=by kernel_rfl
theorem Ba (g:Int):dW Tryz.prog (.int .i64 g) (aE Tryz.prog 13 (cm Tryz.prog ga gl gc sb so sc ms N 4 c cs 1 x (cp Tryz.prog)))=some (nZ Tryz.prog ga gl gc sb so sc ms N 4 c cs 1 (xl x 1 ⟨sb,so+1,none⟩ g),#[cD ⟨sb,so+1,none⟩ false],[⟨sb,so+1,none⟩]):=by kernel_rfl
theorem Bb:mute Tryz.prog 13 (cm Tryz.prog ga gl gc sb so sc ms N 4 c cs 2 x (cp Tryz.prog))=true:=by kernel_rfl
theorem Bc (g:Int):dW Tryz.prog (.int .i64 g) (aE Tryz.prog 13 (cm Tryz.prog ga gl gc sb so sc ms N 4 c cs 2 x (cp Tryz.prog)))=some (nZ Tryz.prog ga gl gc sb so sc ms N 4 c cs 2 (xl x 2 ⟨sb,so+2,none⟩ g),#[cD ⟨sb,so+2,none⟩ false],[⟨sb,so+2,none⟩]):=by kernel_rfl
theorem Bd:mute Tryz.prog 13 (cm Tryz.prog ga gl gc sb so sc ms N 4 c cs 3 x (cp Tryz.prog))=true:=by kernel_rfl
theorem Be (g:Int):dW Tryz.prog (.int .i64 g) (aE Tryz.prog 13 (cm Tryz.prog ga gl gc sb so sc ms N 4 c cs 3 x (cp Tryz.prog)))=some (nZ Tryz.prog ga gl gc sb so sc ms N 4 c cs 3 (xl x 3 ⟨sb,so+3,none⟩ g),#[cD ⟨sb,so+3,none⟩ false],[⟨sb,so+3,none⟩]):=by kernel_rfl
theorem It:mute Tryz.prog 10 (cm Tryz.prog ga gl gc sb so sc ms N 4 c cs 4 x (cp Tryz.prog))=true:=by kernel_rfl
theorem ER:aE Tryz.prog 10 (cm Tryz.prog ga gl gc sb so sc ms N 4 c cs 4 x (cp Tryz.prog))=Au Tryz.prog (N+5) (Ez Tryz.prog ga gl gc sb so sc ms N 4 c cs x) (uK Tryz.prog ga gl gc sb so sc ms N 4 c cs):=by kernel_rfl
theorem Iu:cz Tryz.prog (N+3) (AH Tryz.prog ga gl gc sb so sc ms N 5 c cs)=some (tf Tryz.prog ga gl gc sb so sc ms N 5 c cs,#[],.cells #[.int .i64 0,.int .i64 0,.int .i64 0,.bool false,.bool false,.int .i64 0,.int .i64 0,.int .i64 0,.bool false,.bool false,.int .i64 0,.int .i64 0,.int .i64 0,.bool false,.bool false,.int .i64 0,.int .i64 0,.int .i64 0,.bool false,.bool false,.int .i64 0,.int .i64 0,.int .i64 0,.bool false,.bool false] 107):=by kernel_rfl
theorem Iv:cz Tryz.prog (N+4) (tf Tryz.prog ga gl gc sb so sc ms N 5 c cs)=some (iB Tryz.prog ga gl gc sb so sc ms N 5 c cs,#[],.cells #[.slice none 0 0] 104):=by kernel_rfl
theorem Iw:iL Tryz.prog (iB Tryz.prog ga gl gc sb so sc ms N 5 c cs)=some (sx Tryz.prog (iB Tryz.prog ga gl gc sb so sc ms N 5 c cs),#[cD ⟨N+4,0,none⟩ true],[(⟨N+4,0,none⟩,.slice (some ⟨N+3,0,none⟩) 5 5)]):=by kernel_rfl
theorem ES:mute Tryz.prog 3 (sx Tryz.prog (iB Tryz.prog ga gl gc sb so sc ms N 5 c cs))=true:=by kernel_rfl
theorem Ix:cz Tryz.prog (N+5) (kL Tryz.prog ga gl gc sb so sc ms N 5 c cs)=some (nx Tryz.prog (N+5) (kL Tryz.prog ga gl gc sb so sc ms N 5 c cs),#[],.cells #[.int .u64 0,.int .u32 0] 191):=by kernel_rfl
theorem ET:mute Tryz.prog 10 (nx Tryz.prog (N+5) (kL Tryz.prog ga gl gc sb so sc ms N 5 c cs))=true:=by kernel_rfl
theorem EU:AI Tryz.prog ga gl gc sb so sc ms N 5 c cs=cm Tryz.prog ga gl gc sb so sc ms N 5 c cs 0 x0 (cp Tryz.prog):=by kernel_rfl
theorem Bf:mute Tryz.prog 13 (cm Tryz.prog ga gl gc sb so sc ms N 5 c cs 0 x (cp Tryz.prog))=true:=by kernel_rfl
theorem Bg (g:Int):dW Tryz.prog (.int .i64 g) (aE Tryz.prog 13 (cm Tryz.prog ga gl gc sb so sc ms N 5 c cs 0 x (cp Tryz.prog)))=some (nZ Tryz.prog ga gl gc sb so sc ms N 5 c cs 0 (xl x 0 ⟨sb,so+0,none⟩ g),#[cD ⟨sb,so+0,none⟩ false],[⟨sb,so+0,none⟩]):=by kernel_rfl
theorem Bh:mute Tryz.prog 13 (cm Tryz.prog ga gl gc sb so sc ms N 5 c cs 1 x (cp Tryz.prog))=true:=by kernel_rfl
theorem Bi (g:Int):dW Tryz.prog (.int .i64 g) (aE Tryz.prog 13 (cm Tryz.prog ga gl gc sb so sc ms N 5 c cs 1 x (cp Tryz.prog)))=some (nZ Tryz.prog ga gl gc sb so sc ms N 5 c cs 1 (xl x 1 ⟨sb,so+1,none⟩ g),#[cD ⟨sb,so+1,none⟩ false],[⟨sb,so+1,none⟩]):=by kernel_rfl
theorem Bj:mute Tryz.prog 13 (cm Tryz.prog ga gl gc sb so sc ms N 5 c cs 2 x (cp Tryz.prog))=true:=by kernel_rfl
theorem Bm (g:Int):dW Tryz.prog (.int .i64 g) (aE Tryz.prog 13 (cm Tryz.prog ga gl gc sb so sc ms N 5 c cs 2 x (cp Tryz.prog)))=some (nZ Tryz.prog ga gl gc sb so sc ms N 5 c cs 2 (xl x 2 ⟨sb,so+2,none⟩ g),#[cD ⟨sb,so+2,none⟩ false],[⟨sb,so+2,none⟩]):=by kernel_rfl
theorem Bn:mute Tryz.prog 13 (cm Tryz.prog ga gl gc sb so sc ms N 5 c cs 3 x (cp Tryz.prog))=true:=by kernel_rfl
theorem Bo (g:Int):dW Tryz.prog (.int .i64 g) (aE Tryz.prog 13 (cm Tryz.prog ga gl gc sb so sc ms N 5 c cs 3 x (cp Tryz.prog)))=some (nZ Tryz.prog ga gl gc sb so sc ms N 5 c cs 3 (xl x 3 ⟨sb,so+3,none⟩ g),#[cD ⟨sb,so+3,none⟩ false],[⟨sb,so+3,none⟩]):=by kernel_rfl
theorem Bp:mute Tryz.prog 13 (cm Tryz.prog ga gl gc sb so sc ms N 5 c cs 4 x (cp Tryz.prog))=true:=by kernel_rfl
theorem Br (g:Int):dW Tryz.prog (.int .i64 g) (aE Tryz.prog 13 (cm Tryz.prog ga gl gc sb so sc ms N 5 c cs 4 x (cp Tryz.prog)))=some (nZ Tryz.prog ga gl gc sb so sc ms N 5 c cs 4 (xl x 4 ⟨sb,so+4,none⟩ g),#[cD ⟨sb,so+4,none⟩ false],[⟨sb,so+4,none⟩]):=by kernel_rfl
theorem Iy:mute Tryz.prog 10 (cm Tryz.prog ga gl gc sb so sc ms N 5 c cs 5 x (cp Tryz.prog))=true:=by kernel_rfl
theorem EV:aE Tryz.prog 10 (cm Tryz.prog ga gl gc sb so sc ms N 5 c cs 5 x (cp Tryz.prog))=Au Tryz.prog (N+5) (Ez Tryz.prog ga gl gc sb so sc ms N 5 c cs x) (uK Tryz.prog ga gl gc sb so sc ms N 5 c cs):=by kernel_rfl
theorem EW:cz Tryz.prog r1 (nZ Tryz.prog ga gl gc sb so sc ms N n c cs i x)=some (TL Tryz.prog ga gl gc sb so sc ms N n c cs i x r1,#[],.cells #[.int .i64 0] 3):=by kernel_rfl
theorem EX:cz Tryz.prog r2 (TL Tryz.prog ga gl gc sb so sc ms N n c cs i x r1)=some (TM Tryz.prog ga gl gc sb so sc ms N n c cs i x r1 r2,#[],.cells #[.int .i64 0] 3):=by kernel_rfl
theorem On (y:Nat→Value)(a:Addr)(g:Int):iL Tryz.prog (TM Tryz.prog ga gl gc sb so sc ms N n c cs i (xl y i a g) r1 r2)=some (TN Tryz.prog ga gl gc sb so sc ms N n c cs i (xl y i a g) r1 r2,#[cD ⟨r1,0,none⟩ true],[(⟨r1,0,none⟩,.int .i64 i)]):=by kernel_rfl
theorem Oo (y:Nat→Value)(a:Addr)(g:Int):iL Tryz.prog (TN Tryz.prog ga gl gc sb so sc ms N n c cs i (xl y i a g) r1 r2)=some (Q6 Tryz.prog ga gl gc sb so sc ms N n c cs i (xl y i a g) r1 r2,#[cD ⟨r2,0,none⟩ true],[(⟨r2,0,none⟩,.int .i64 g)]):=by kernel_rfl
theorem LP (y:Nat→Value)(a:Addr)(g:Int):mute Tryz.prog 4 (Q6 Tryz.prog ga gl gc sb so sc ms N n c cs i (xl y i a g) r1 r2)=true:=by kernel_rfl
theorem Oq (y:Nat→Value)(a:Addr)(g:Int):aE Tryz.prog 4 (Q6 Tryz.prog ga gl gc sb so sc ms N n c cs i (xl y i a g) r1 r2)=QT Tryz.prog (N+5) (TP Tryz.prog ga gl gc sb so sc ms N n c cs i (xl y i a g) r1 r2) (uK Tryz.prog ga gl gc sb so sc ms N n c cs):=by kernel_rfl
theorem LQ (y:Nat→Value)(a:Addr)(g:Int):mute Tryz.prog 3 (Q7 Tryz.prog ga gl gc sb so sc ms N n c cs i (xl y i a g) r1 r2)=true:=by kernel_rfl
theorem Q9 (y:Nat→Value)(a:Addr)(g:Int):AE Tryz.prog (Q8 Tryz.prog ga gl gc sb so sc ms N n c cs i (xl y i a g) r1 r2)=some (na Tryz.prog ga gl gc sb so sc ms N n c cs i (xl y i a g) r1 r2,G4 Tryz.prog (N+5) (N+2) r2 (N+4) r1):=by kernel_rfl
theorem EY (y:Nat→Value)(a:Addr)(g:Int):mute Tryz.prog 7 (na Tryz.prog ga gl gc sb so sc ms N n c cs 0 (xl y 0 a g) r1 r2)=true:=by kernel_rfl
theorem EZ (y:Nat→Value)(a:Addr)(g:Int):aE Tryz.prog 7 (na Tryz.prog ga gl gc sb so sc ms N n c cs 0 (xl y 0 a g) r1 r2)=cm Tryz.prog ga gl gc sb so sc ms N n c cs 1 (xn (aE Tryz.prog 7 (na Tryz.prog ga gl gc sb so sc ms N n c cs 0 (xl y 0 a g) r1 r2))) (cp Tryz.prog):=by kernel_rfl
theorem E0 (y:Nat→Value)(a:Addr)(g:Int):mute Tryz.prog 7 (na Tryz.prog ga gl gc sb so sc ms N n c cs 1 (xl y 1 a g) r1 r2)=true:=by kernel_rfl
theorem E1 (y:Nat→Value)(a:Addr)(g:Int):aE Tryz.prog 7 (na Tryz.prog ga gl gc sb so sc ms N n c cs 1 (xl y 1 a g) r1 r2)=cm Tryz.prog ga gl gc sb so sc ms N n c cs 2 (xn (aE Tryz.prog 7 (na Tryz.prog ga gl gc sb so sc ms N n c cs 1 (xl y 1 a g) r1 r2))) (cp Tryz.prog):=by kernel_rfl
theorem E7 (y:Nat→Value)(a:Addr)(g:Int):mute Tryz.prog 7 (na Tryz.prog ga gl gc sb so sc ms N n c cs 2 (xl y 2 a g) r1 r2)=true:=by kernel_rfl
theorem E8 (y:Nat→Value)(a:Addr)(g:Int):aE Tryz.prog 7 (na Tryz.prog ga gl gc sb so sc ms N n c cs 2 (xl y 2 a g) r1 r2)=cm Tryz.prog ga gl gc sb so sc ms N n c cs 3 (xn (aE Tryz.prog 7 (na Tryz.prog ga gl gc sb so sc ms N n c cs 2 (xl y 2 a g) r1 r2))) (cp Tryz.prog):=by kernel_rfl
theorem E9 (y:Nat→Value)(a:Addr)(g:Int):mute Tryz.prog 7 (na Tryz.prog ga gl gc sb so sc ms N n c cs 3 (xl y 3 a g) r1 r2)=true:=by kernel_rfl
theorem E_ (y:Nat→Value)(a:Addr)(g:Int):aE Tryz.prog 7 (na Tryz.prog ga gl gc sb so sc ms N n c cs 3 (xl y 3 a g) r1 r2)=cm Tryz.prog ga gl gc sb so sc ms N n c cs 4 (xn (aE Tryz.prog 7 (na Tryz.prog ga gl gc sb so sc ms N n c cs 3 (xl y 3 a g) r1 r2))) (cp Tryz.prog):=by kernel_rfl
theorem E' (y:Nat→Value)(a:Addr)(g:Int):mute Tryz.prog 7 (na Tryz.prog ga gl gc sb so sc ms N n c cs 4 (xl y 4 a g) r1 r2)=true:=by kernel_rfl
theorem Fa (y:Nat→Value)(a:Addr)(g:Int):aE Tryz.prog 7 (na Tryz.prog ga gl gc sb so sc ms N n c cs 4 (xl y 4 a g) r1 r2)=cm Tryz.prog ga gl gc sb so sc ms N n c cs 5 (xn (aE Tryz.prog 7 (na Tryz.prog ga gl gc sb so sc ms N n c cs 4 (xl y 4 a g) r1 r2))) (cp Tryz.prog):=by kernel_rfl
theorem Fb:mute Tryz.prog 3 (AJ Tryz.prog ga gl gc sb so sc ms N 1 c cs x)=true:=by kernel_rfl
theorem Fc (v:Value):aZ Tryz.prog v none (jI Tryz.prog ga gl gc sb so sc ms N 1 c cs x)=some ⟨bf (jI Tryz.prog ga gl gc sb so sc ms N 1 c cs x) v,#[cD ⟨N+4,0,none⟩ false],[⟨N+4,0,none⟩],[],none⟩:=by kernel_rfl
theorem Fe (A l q:Nat):mute Tryz.prog 8 (bf (jI Tryz.prog ga gl gc sb so sc ms N 1 c cs x) (.slice (some ⟨A,0,none⟩) l q))=true:=by kernel_rfl
theorem Iz (A l q:Nat):aE Tryz.prog 8 (bf (jI Tryz.prog ga gl gc sb so sc ms N 1 c cs x) (.slice (some ⟨A,0,none⟩) l q))={frame:=c.finish (.slice (some ⟨A,0,none⟩) l q),callers:=cs,status:= .running,dying:=none}:=by kernel_rfl
theorem Ff:mute Tryz.prog 3 (AJ Tryz.prog ga gl gc sb so sc ms N 2 c cs x)=true:=by kernel_rfl
theorem Fg (v:Value):aZ Tryz.prog v none (jI Tryz.prog ga gl gc sb so sc ms N 2 c cs x)=some ⟨bf (jI Tryz.prog ga gl gc sb so sc ms N 2 c cs x) v,#[cD ⟨N+4,0,none⟩ false],[⟨N+4,0,none⟩],[],none⟩:=by kernel_rfl
theorem Fh (A l q:Nat):mute Tryz.prog 8 (bf (jI Tryz.prog ga gl gc sb so sc ms N 2 c cs x) (.slice (some ⟨A,0,none⟩) l q))=true:=by kernel_rfl
theorem IA (A l q:Nat):aE Tryz.prog 8 (bf (jI Tryz.prog ga gl gc sb so sc ms N 2 c cs x) (.slice (some ⟨A,0,none⟩) l q))={frame:=c.finish (.slice (some ⟨A,0,none⟩) l q),callers:=cs,status:= .running,dying:=none}:=by kernel_rfl
theorem Fi:mute Tryz.prog 3 (AJ Tryz.prog ga gl gc sb so sc ms N 3 c cs x)=true:=by kernel_rfl
theorem Fj (v:Value):aZ Tryz.prog v none (jI Tryz.prog ga gl gc sb so sc ms N 3 c cs x)=some ⟨bf (jI Tryz.prog ga gl gc sb so sc ms N 3 c cs x) v,#[cD ⟨N+4,0,none⟩ false],[⟨N+4,0,none⟩],[],none⟩:=by kernel_rfl
theorem Fl (A l q:Nat):mute Tryz.prog 8 (bf (jI Tryz.prog ga gl gc sb so sc ms N 3 c cs x) (.slice (some ⟨A,0,none⟩) l q))=true:=by kernel_rfl
theorem IB (A l q:Nat):aE Tryz.prog 8 (bf (jI Tryz.prog ga gl gc sb so sc ms N 3 c cs x) (.slice (some ⟨A,0,none⟩) l q))={frame:=c.finish (.slice (some ⟨A,0,none⟩) l q),callers:=cs,status:= .running,dying:=none}:=by kernel_rfl
theorem Fo:mute Tryz.prog 3 (AJ Tryz.prog ga gl gc sb so sc ms N 4 c cs x)=true:=by kernel_rfl
theorem Fp (v:Value):aZ Tryz.prog v none (jI Tryz.prog ga gl gc sb so sc ms N 4 c cs x)=some ⟨bf (jI Tryz.prog ga gl gc sb so sc ms N 4 c cs x) v,#[cD ⟨N+4,0,none⟩ false],[⟨N+4,0,none⟩],[],none⟩:=by kernel_rfl
theorem Fq (A l q:Nat):mute Tryz.prog 8 (bf (jI Tryz.prog ga gl gc sb so sc ms N 4 c cs x) (.slice (some ⟨A,0,none⟩) l q))=true:=by kernel_rfl
theorem IC (A l q:Nat):aE Tryz.prog 8 (bf (jI Tryz.prog ga gl gc sb so sc ms N 4 c cs x) (.slice (some ⟨A,0,none⟩) l q))={frame:=c.finish (.slice (some ⟨A,0,none⟩) l q),callers:=cs,status:= .running,dying:=none}:=by kernel_rfl
theorem Fs:mute Tryz.prog 3 (AJ Tryz.prog ga gl gc sb so sc ms N 5 c cs x)=true:=by kernel_rfl
theorem Ft (v:Value):aZ Tryz.prog v none (jI Tryz.prog ga gl gc sb so sc ms N 5 c cs x)=some ⟨bf (jI Tryz.prog ga gl gc sb so sc ms N 5 c cs x) v,#[cD ⟨N+4,0,none⟩ false],[⟨N+4,0,none⟩],[],none⟩:=by kernel_rfl
theorem Fu (A l q:Nat):mute Tryz.prog 8 (bf (jI Tryz.prog ga gl gc sb so sc ms N 5 c cs x) (.slice (some ⟨A,0,none⟩) l q))=true:=by kernel_rfl
theorem ID (A l q:Nat):aE Tryz.prog 8 (bf (jI Tryz.prog ga gl gc sb so sc ms N 5 c cs x) (.slice (some ⟨A,0,none⟩) l q))={frame:=c.finish (.slice (some ⟨A,0,none⟩) l q),callers:=cs,status:= .running,dying:=none}:=by kernel_rfl
end
section
variable(ga:Addr)(gl gc sb so sc:Nat)(ms:Int)(N n:Nat)(c:Frame)(cs:List Frame)(x:Nat→Value)(r1 r2:Nat)
theorem Ot (U:1≤n)(h5:n≤5):∃z:Array Value,z.size=5*n∧cz Tryz.prog (N+3) (AH Tryz.prog ga gl gc sb so sc ms N n c cs)=some (tf Tryz.prog ga gl gc sb so sc ms N n c cs,#[],.cells z 107):=by
 obtain rfl|rfl|rfl|rfl|rfl:n=1∨n=2∨n=3∨n=4∨n=5:=by omega
 ·exact⟨_,by rfl,H9 ga gl gc sb so sc ms N c cs⟩
 ·exact⟨_,by rfl,Ic ga gl gc sb so sc ms N c cs⟩
 ·exact⟨_,by rfl,Ij ga gl gc sb so sc ms N c cs⟩
 ·exact⟨_,by rfl,Ip ga gl gc sb so sc ms N c cs⟩
 ·exact⟨_,by rfl,Iu ga gl gc sb so sc ms N c cs⟩
theorem Ou (U:1≤n)(h5:n≤5):cz Tryz.prog (N+4) (tf Tryz.prog ga gl gc sb so sc ms N n c cs)=some (iB Tryz.prog ga gl gc sb so sc ms N n c cs,#[],.cells #[.slice none 0 0] 104):=by
 obtain rfl|rfl|rfl|rfl|rfl:n=1∨n=2∨n=3∨n=4∨n=5:=by omega
 ·exact H_ ga gl gc sb so sc ms N c cs
 ·exact Ie ga gl gc sb so sc ms N c cs
 ·exact Ik ga gl gc sb so sc ms N c cs
 ·exact Iq ga gl gc sb so sc ms N c cs
 ·exact Iv ga gl gc sb so sc ms N c cs
theorem Ov (U:1≤n)(h5:n≤5):iL Tryz.prog (iB Tryz.prog ga gl gc sb so sc ms N n c cs)=some (sx Tryz.prog (iB Tryz.prog ga gl gc sb so sc ms N n c cs),#[cD ⟨N+4,0,none⟩ true],[(⟨N+4,0,none⟩,.slice (some ⟨N+3,0,none⟩) n n)]):=by
 obtain rfl|rfl|rfl|rfl|rfl:n=1∨n=2∨n=3∨n=4∨n=5:=by omega
 ·exact H' ga gl gc sb so sc ms N c cs
 ·exact Ig ga gl gc sb so sc ms N c cs
 ·exact Il ga gl gc sb so sc ms N c cs
 ·exact Ir ga gl gc sb so sc ms N c cs
 ·exact Iw ga gl gc sb so sc ms N c cs
theorem LS (U:1≤n)(h5:n≤5):mute Tryz.prog 3 (sx Tryz.prog (iB Tryz.prog ga gl gc sb so sc ms N n c cs))=true:=by
 obtain rfl|rfl|rfl|rfl|rfl:n=1∨n=2∨n=3∨n=4∨n=5:=by omega
 ·exact EB ga gl gc sb so sc ms N c cs
 ·exact EF ga gl gc sb so sc ms N c cs
 ·exact EJ ga gl gc sb so sc ms N c cs
 ·exact EN ga gl gc sb so sc ms N c cs
 ·exact ES ga gl gc sb so sc ms N c cs
theorem Ow (U:1≤n)(h5:n≤5):cz Tryz.prog (N+5) (kL Tryz.prog ga gl gc sb so sc ms N n c cs)=some (nx Tryz.prog (N+5) (kL Tryz.prog ga gl gc sb so sc ms N n c cs),#[],.cells #[.int .u64 0,.int .u32 0] 191):=by
 obtain rfl|rfl|rfl|rfl|rfl:n=1∨n=2∨n=3∨n=4∨n=5:=by omega
 ·exact Ia ga gl gc sb so sc ms N c cs
 ·exact Ih ga gl gc sb so sc ms N c cs
 ·exact Im ga gl gc sb so sc ms N c cs
 ·exact Is ga gl gc sb so sc ms N c cs
 ·exact Ix ga gl gc sb so sc ms N c cs
theorem LU (U:1≤n)(h5:n≤5):mute Tryz.prog 10 (nx Tryz.prog (N+5) (kL Tryz.prog ga gl gc sb so sc ms N n c cs))=true:=by
 obtain rfl|rfl|rfl|rfl|rfl:n=1∨n=2∨n=3∨n=4∨n=5:=by omega
 ·exact EC ga gl gc sb so sc ms N c cs
 ·exact EG ga gl gc sb so sc ms N c cs
 ·exact EK ga gl gc sb so sc ms N c cs
 ·exact EO ga gl gc sb so sc ms N c cs
 ·exact ET ga gl gc sb so sc ms N c cs
theorem LV (U:1≤n)(h5:n≤5):AI Tryz.prog ga gl gc sb so sc ms N n c cs=cm Tryz.prog ga gl gc sb so sc ms N n c cs ((0:Nat):Int) x0 (cp Tryz.prog):=by
 obtain rfl|rfl|rfl|rfl|rfl:n=1∨n=2∨n=3∨n=4∨n=5:=by omega
 ·exact ED ga gl gc sb so sc ms N c cs
 ·exact EH ga gl gc sb so sc ms N c cs
 ·exact EL ga gl gc sb so sc ms N c cs
 ·exact EP ga gl gc sb so sc ms N c cs
 ·exact EU ga gl gc sb so sc ms N c cs
theorem Ox (U:1≤n)(h5:n≤5):mute Tryz.prog 10 (cm Tryz.prog ga gl gc sb so sc ms N n c cs n x (cp Tryz.prog))=true:=by
 obtain rfl|rfl|rfl|rfl|rfl:n=1∨n=2∨n=3∨n=4∨n=5:=by omega
 ·exact Ib ga gl gc sb so sc ms N c cs x
 ·exact Ii ga gl gc sb so sc ms N c cs x
 ·exact Io ga gl gc sb so sc ms N c cs x
 ·exact It ga gl gc sb so sc ms N c cs x
 ·exact Iy ga gl gc sb so sc ms N c cs x
theorem LW (U:1≤n)(h5:n≤5):aE Tryz.prog 10 (cm Tryz.prog ga gl gc sb so sc ms N n c cs n x (cp Tryz.prog))=Au Tryz.prog (N+5) (Ez Tryz.prog ga gl gc sb so sc ms N n c cs x) (uK Tryz.prog ga gl gc sb so sc ms N n c cs):=by
 obtain rfl|rfl|rfl|rfl|rfl:n=1∨n=2∨n=3∨n=4∨n=5:=by omega
 ·exact EE ga gl gc sb so sc ms N c cs x
 ·exact EI ga gl gc sb so sc ms N c cs x
 ·exact EM ga gl gc sb so sc ms N c cs x
 ·exact ER ga gl gc sb so sc ms N c cs x
 ·exact EV ga gl gc sb so sc ms N c cs x
theorem LX (U:1≤n)(h5:n≤5):mute Tryz.prog 3 (AJ Tryz.prog ga gl gc sb so sc ms N n c cs x)=true:=by
 obtain rfl|rfl|rfl|rfl|rfl:n=1∨n=2∨n=3∨n=4∨n=5:=by omega
 ·exact Fb ga gl gc sb so sc ms N c cs x
 ·exact Ff ga gl gc sb so sc ms N c cs x
 ·exact Fi ga gl gc sb so sc ms N c cs x
 ·exact Fo ga gl gc sb so sc ms N c cs x
 ·exact Fs ga gl gc sb so sc ms N c cs x
theorem LY (U:1≤n)(h5:n≤5)(v:Value):aZ Tryz.prog v none (jI Tryz.prog ga gl gc sb so sc ms N n c cs x)=some ⟨bf (jI Tryz.prog ga gl gc sb so sc ms N n c cs x) v,#[cD ⟨N+4,0,none⟩ false],[⟨N+4,0,none⟩],[],none⟩:=by
 obtain rfl|rfl|rfl|rfl|rfl:n=1∨n=2∨n=3∨n=4∨n=5:=by omega
 ·exact Fc ga gl gc sb so sc ms N c cs x v
 ·exact Fg ga gl gc sb so sc ms N c cs x v
 ·exact Fj ga gl gc sb so sc ms N c cs x v
 ·exact Fp ga gl gc sb so sc ms N c cs x v
 ·exact Ft ga gl gc sb so sc ms N c cs x v
theorem LZ (U:1≤n)(h5:n≤5)(A l q:Nat):mute Tryz.prog 8 (bf (jI Tryz.prog ga gl gc sb so sc ms N n c cs x) (.slice (some ⟨A,0,none⟩) l q))=true:=by
 obtain rfl|rfl|rfl|rfl|rfl:n=1∨n=2∨n=3∨n=4∨n=5:=by omega
 ·exact Fe ga gl gc sb so sc ms N c cs x A l q
 ·exact Fh ga gl gc sb so sc ms N c cs x A l q
 ·exact Fl ga gl gc sb so sc ms N c cs x A l q
 ·exact Fq ga gl gc sb so sc ms N c cs x A l q
 ·exact Fu ga gl gc sb so sc ms N c cs x A l q
theorem Oy (U:1≤n)(h5:n≤5)(A l q:Nat):aE Tryz.prog 8 (bf (jI Tryz.prog ga gl gc sb so sc ms N n c cs x) (.slice (some ⟨A,0,none⟩) l q))={frame:=c.finish (.slice (some ⟨A,0,none⟩) l q),callers:=cs,status:= .running,dying:=none}:=by
 obtain rfl|rfl|rfl|rfl|rfl:n=1∨n=2∨n=3∨n=4∨n=5:=by omega
 ·exact Iz ga gl gc sb so sc ms N c cs x A l q
 ·exact IA ga gl gc sb so sc ms N c cs x A l q
 ·exact IB ga gl gc sb so sc ms N c cs x A l q
 ·exact IC ga gl gc sb so sc ms N c cs x A l q
 ·exact ID ga gl gc sb so sc ms N c cs x A l q
theorem Oz (i:Nat)(hi:i<n)(h5:n≤5):mute Tryz.prog 13 (cm Tryz.prog ga gl gc sb so sc ms N n c cs (i:Nat) x (cp Tryz.prog))=true:=by
 obtain rfl|rfl|rfl|rfl|rfl:n=1∨n=2∨n=3∨n=4∨n=5:=by omega
 ·obtain rfl:i=0:=by omega
  exact AK ga gl gc sb so sc ms N c cs x
 ·obtain rfl|rfl:i=0∨i=1:=by omega
  ·exact AN ga gl gc sb so sc ms N c cs x
  ·exact AP ga gl gc sb so sc ms N c cs x
 ·obtain rfl|rfl|rfl:i=0∨i=1∨i=2:=by omega
  ·exact AT ga gl gc sb so sc ms N c cs x
  ·exact AV ga gl gc sb so sc ms N c cs x
  ·exact AX ga gl gc sb so sc ms N c cs x
 ·obtain rfl|rfl|rfl|rfl:i=0∨i=1∨i=2∨i=3:=by omega
  ·exact AZ ga gl gc sb so sc ms N c cs x
  ·exact A_ ga gl gc sb so sc ms N c cs x
  ·exact Bb ga gl gc sb so sc ms N c cs x
  ·exact Bd ga gl gc sb so sc ms N c cs x
 ·obtain rfl|rfl|rfl|rfl|rfl:i=0∨i=1∨i=2∨i=3∨i=4:=by omega
  ·exact Bf ga gl gc sb so sc ms N c cs x
  ·exact Bh ga gl gc sb so sc ms N c cs x
  ·exact Bj ga gl gc sb so sc ms N c cs x
  ·exact Bn ga gl gc sb so sc ms N c cs x
  ·exact Bp ga gl gc sb so sc ms N c cs x
theorem OA (i:Nat)(hi:i<n)(h5:n≤5)(g:Int):dW Tryz.prog (.int .i64 g) (aE Tryz.prog 13 (cm Tryz.prog ga gl gc sb so sc ms N n c cs (i:Nat) x (cp Tryz.prog)))=some (nZ Tryz.prog ga gl gc sb so sc ms N n c cs (i:Nat) (xl x (i:Nat) ⟨sb,so+i,none⟩ g),#[cD ⟨sb,so+i,none⟩ false],[⟨sb,so+i,none⟩]):=by
 obtain rfl|rfl|rfl|rfl|rfl:n=1∨n=2∨n=3∨n=4∨n=5:=by omega
 ·obtain rfl:i=0:=by omega
  exact AL ga gl gc sb so sc ms N c cs x g
 ·obtain rfl|rfl:i=0∨i=1:=by omega
  ·exact AO ga gl gc sb so sc ms N c cs x g
  ·exact AQ ga gl gc sb so sc ms N c cs x g
 ·obtain rfl|rfl|rfl:i=0∨i=1∨i=2:=by omega
  ·exact AU ga gl gc sb so sc ms N c cs x g
  ·exact AW ga gl gc sb so sc ms N c cs x g
  ·exact AY ga gl gc sb so sc ms N c cs x g
 ·obtain rfl|rfl|rfl|rfl:i=0∨i=1∨i=2∨i=3:=by omega
  ·exact A0 ga gl gc sb so sc ms N c cs x g
  ·exact Ba ga gl gc sb so sc ms N c cs x g
  ·exact Bc ga gl gc sb so sc ms N c cs x g
  ·exact Be ga gl gc sb so sc ms N c cs x g
 ·obtain rfl|rfl|rfl|rfl|rfl:i=0∨i=1∨i=2∨i=3∨i=4:=by omega
  ·exact Bg ga gl gc sb so sc ms N c cs x g
  ·exact Bi ga gl gc sb so sc ms N c cs x g
  ·exact Bm ga gl gc sb so sc ms N c cs x g
  ·exact Bo ga gl gc sb so sc ms N c cs x g
  ·exact Br ga gl gc sb so sc ms N c cs x g
theorem L0 (i:Nat)(hi:i<5)(y:Nat→Value)(a:Addr)(g:Int):mute Tryz.prog 7 (na Tryz.prog ga gl gc sb so sc ms N n c cs (i:Nat) (xl y (i:Nat) a g) r1 r2)=true:=by
 obtain rfl|rfl|rfl|rfl|rfl:i=0∨i=1∨i=2∨i=3∨i=4:=by omega
 ·exact EY ga gl gc sb so sc ms N n c cs r1 r2 y a g
 ·exact E0 ga gl gc sb so sc ms N n c cs r1 r2 y a g
 ·exact E7 ga gl gc sb so sc ms N n c cs r1 r2 y a g
 ·exact E9 ga gl gc sb so sc ms N n c cs r1 r2 y a g
 ·exact E' ga gl gc sb so sc ms N n c cs r1 r2 y a g
theorem L1 (i:Nat)(hi:i<5)(y:Nat→Value)(a:Addr)(g:Int):∃x',aE Tryz.prog 7 (na Tryz.prog ga gl gc sb so sc ms N n c cs (i:Nat) (xl y (i:Nat) a g) r1 r2)=cm Tryz.prog ga gl gc sb so sc ms N n c cs ((i+1:Nat):Int) x' (cp Tryz.prog):=by
 obtain rfl|rfl|rfl|rfl|rfl:i=0∨i=1∨i=2∨i=3∨i=4:=by omega
 ·exact⟨_,EZ ga gl gc sb so sc ms N n c cs r1 r2 y a g⟩
 ·exact⟨_,E1 ga gl gc sb so sc ms N n c cs r1 r2 y a g⟩
 ·exact⟨_,E8 ga gl gc sb so sc ms N n c cs r1 r2 y a g⟩
 ·exact⟨_,E_ ga gl gc sb so sc ms N n c cs r1 r2 y a g⟩
 ·exact⟨_,Fa ga gl gc sb so sc ms N n c cs r1 r2 y a g⟩
end
end Go.Proofs.YtjklkppncmhehaaGreat.Sr
