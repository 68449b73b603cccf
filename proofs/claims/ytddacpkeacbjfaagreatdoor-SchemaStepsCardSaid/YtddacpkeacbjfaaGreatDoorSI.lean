/- The numbers of the program's functions. Written by program. No condition. -/
import Derived.Test.YtddacpkeacbjfaaGreatDoorA4
import Derived.Test.YtddacpkeacbjfaaGreatDoorProg
import Derived.KernelRfl
import Derived.Lib.ItoaNum
import Derived.Lib.TrailingZeros
namespace Go.Ab
noncomputable abbrev Pg:Program:=Go.Proofs.Tryz.prog
def Dl:WQ:=Go.Lib.deBruijn64tab.map λn:Nat=>(n:Int)
instance:cM:=⟨λb=>if b=1 then some (Go.Lib.pow10Tab.map λz=>Value.int .u64 z).toArray else if b=3 then some (Dl.map λz=>Value.int .u8 z).toArray else none⟩
end Go.Ab
namespace Go.Ab.Q
open Go.Ab
abbrev o (d:Nat) (k:AK):AO:=⟨some d,none,true,k⟩
abbrev u (d:Nat) (k:AK):AO:=⟨some d,none,false,k⟩
abbrev g (d j:Nat) (b m:Bool) (k:AK):AO:=⟨some d,some (j,b),m,k⟩
abbrev m (d n:Nat):AO:=⟨some d,none,true,.mv (.t n)⟩
abbrev l (d n:Nat):AO:=⟨some d,none,true,.load false 1 (.t n)⟩
abbrev f (d i j n:Nat):AO:=⟨some d,none,true,.fieldA i j (.t n)⟩
abbrev h (d j a b n:Nat):AO:=⟨some d,some (j,true),true,.fieldA a b (.t n)⟩
abbrev k (d j:Nat) (b:Bool) (n:Nat):AO:=⟨some d,some (j,b),true,.load false 1 (.t n)⟩
abbrev c (d:Nat) (i:FuncId) (a:ZP):AO:=⟨some d,none,false,.call (.c (.fn (.func i) [] [])) a⟩
abbrev q (d:Nat) (i:FuncId) (a:ZP):AO:=⟨some d,none,false,.callq (.c (.fn (.func i) [] [])) a⟩
abbrev x (n:Nat):AX:= .t n
abbrev i (n:Int):AX:= .c (.int .i64 n)
abbrev s (w a b:Nat):AO:=⟨none,none,false,.store w (.t a) (.t b)⟩
abbrev v (k:AK):AO:=⟨none,none,false,k⟩
abbrev n (d a:Nat):AO:=⟨some d,none,true,.nilCheck (.t a)⟩
abbrev w (l:UN) (c:bT):bT:= .seq (.region l) c
noncomputable abbrev Jy:PV:= .ar 1 32 (zr 32 (.int .u8 0))
noncomputable abbrev z16:PV:= .ar 1 16 (zr 16 (.int .u8 0))
noncomputable abbrev z12:PV:= .ar 1 12 (zr 12 (.int .u8 0))
abbrev z8:PV:= .int .u64 0
abbrev z4:PV:= .int .i64 0
noncomputable abbrev zU:PV:= .st 10 [z8,z8,z4,z4,z4,z4,z4,z4,z4,z4]
noncomputable abbrev zA:PV:= .st 17 [.bl false,z16]
noncomputable abbrev zE:PV:= .st 18 [zA,z4]
noncomputable abbrev zN:PV:= .st 64 [Jy,Jy]
noncomputable abbrev zH:PV:= .st 100 [.bl false,.int .u32 0,Jy,zN,z4,z4]
noncomputable abbrev zM:PV:= .st 148 [zU,Jy,Jy,z4,Jy,z4,.sl 464 [] true,.sl 50 [] true,.sl 34 [] true,.sl 34 [] true,Jy,z4,.sl 1 [] true,.sl 19 [] true,z4]
noncomputable abbrev zS:PV:= .st 76 [.int .u32 0,.int .u32 0,Jy,Jy,z8,z8,.st 6 [.bl false,z8,.ar 1 4 (zr 4 z8)],z4,.bl false]
noncomputable abbrev zP:PV:= .st 77 [.bl false,zS]
noncomputable abbrev zR:PV:= .st 231 [zP,zP,zP]
noncomputable def arU (P:Program) (f:FuncId):Code:=match P.funcs[f]?with|some fn=>fn.body.getD .skip|none=> .skip
noncomputable def GX:Code->List (Array Oper×Bool)
 | .region _ ops b=>[(ops,b)]
 | .seq x y=>GX x++GX y
 | .cond _ x y=>GX x++GX y
 | .block _ x=>GX x
 | .loop x=>GX x
 | .rangeFunc _ _ x y=>GX x++GX y
 |_=>[]
noncomputable def ntC (P:Program) (f:FuncId):Nat:=match P.funcs[f]?with|some fn=>fn.ntmps|none=>0
noncomputable def opC (P:Program) (f:FuncId) (k:Nat):Array Oper×Bool:=(GX (arU P f)).getD k (#[],false)
noncomputable def rlC (P:Program) (own sp:Yx) (f:FuncId) (k:Nat):Option (UN):=match opC P f k with|(ops,b)=>jS P (ntC P f) ops own sp b ops.toList
abbrev RL (own sp:Yx) (f:FuncId) (k:Nat):= {l:UN//rlC Pg own sp f k=some l}
abbrev C (f:FuncId):=RF Pg [] [] f
abbrev D (f:FuncId) (k:Nat):=RL [] [] f k
theorem t0 {f:FuncId} {A:dP} (h:HN Pg [] [] f=some A):eI Pg [] [] f=some A.er:=aA h
theorem t1 (own sp:Yx) (f:FuncId) (A:dP) (h:HN Pg own sp f=some A):eI Pg own sp f=some A.er:=aA h
end Go.Ab.Q
