/- What burrowmake.Daemon makes. No condition. -/
import Derived.Test.YtdfkcobijmbidaaGreatB6
set_option linter.all false
noncomputable section H3as
namespace Go.Ab
open Go.Ab
def zD:PV:=PV.st 148 [PV.st 10 [.int .u64 0,.int .u64 0,.int .i64 0,.int .i64 0,.int .i64 0,.int .i64 0,.int .i64 0,.int .i64 0,.int .i64 0,.int .i64 0],
 .ar 1 32 (zr 32 (.int .u8 0)),.ar 1 32 (zr 32 (.int .u8 0)),.int .i64 0,.ar 1 32 (zr 32 (.int .u8 0)),.int .i64 0,.sl 464 [] true,.sl 50 [] true,.sl 34 [] true,.sl 34 [] true,
 .ar 1 32 (zr 32 (.int .u8 0)),.int .i64 0,.sl 1 [] true,.sl 19 [] true,.int .i64 0]
@[simp] theorem ahf:zD.width=148:=rfl
@[simp] theorem ar2 (ρ:Nat->Nat):aI ρ zD=zD:=by simp[zD]
@[simp] theorem apy (f:Nat->Bool):ab f zD=true:=by simp[zD]
@[simp] theorem ar3 (k sz:Nat) (l:List PV):gq k sz l zD=zD:=by simp[zD]
theorem nb.mono {d:bK} {l:List fX} {m k:Nat} (h:nb d l m) (hk:m≤k):nb d l k:=⟨h.so,h.rg,h.un,Nat.le_trans h.len hk⟩
def ar4 (d:bK) (m:Int):Prop:=∀x∈d.aD,0≤x.index∧x.index<m
def Bd (d:bK):Prop:=∀x∈d.aD,0≤x.index∧x.index≤1000
theorem Lr {d:bK} {i:Nat} {hi:i<d.aj.length} {s:j9} {own:Bool} {x:iK} (h:x∈(mc d i hi s own).aD):x.index=s.loc∨x∈d.aD:=by
 rcases List.mem_cons.1 ((qM _ _).mem_iff.1 h)with h|h
 ·left;rw[h]
 ·right;exact sA h
theorem C8 {d:bK} {i:Nat} {hi:i<d.aj.length} {s:j9} {own:Bool}:(mc d i hi s own).aj.length=d.aj.length:=List.length_set
end Go.Ab
end H3as
noncomputable section H3s
namespace Go.Ab
open Go.Ab
def Y8:kN:=⟨qG,qG,qG⟩
def pz (i:Nat) (e:Bool) (k:Int):dC:=⟨nZ i,Jx,e,if e=true then uq i else xE,k,zSm,false,0,qI,false,wN,0,wN,Y8,[]⟩
theorem OI:ji xE= .st 18 [.st 17 [.bl false,.ar 1 16 (zr 16 (.int .u8 0))],.int .i64 0]:=by rw[gX];rfl
theorem ahg (i:Nat) (k:Int):aC (pz i false k)= .st 464 [eF (nZ i),Jx.p,.bl false,.st 18 [.st 17 [.bl false,.ar 1 16 (zr 16 (.int .u8 0))],.int .i64 0],.int .i64 k,zSm.p,.bl false,.int .i64 0,jV qI,.bl false,wN.p,.int .i64 0,wN.p,ee Y8,gI []]:=by
 show PV.st 464 [eF (nZ i),Jx.p,.bl false,ji xE,.int .i64 k,zSm.p,.bl false,.int .i64 0,jV qI,.bl false,wN.p,.int .i64 0,wN.p,ee Y8,gI []]=_
 rw[OI]
theorem JD {d:bK} {i:Nat} (hi:i<3) {e:Bool} {k:Int} (hk:k=0∨1000≤k∧k≤1073741824):mC d (pz i e k):=by
 refine⟨?_,hk,rfl,rfl,rfl,rfl,rfl,rfl,rfl,.z d,.z d,.z d⟩
 cases e
 ·exact Or.inr ⟨rfl,rfl⟩
 ·exact Or.inl ⟨rfl,i,hi,rfl⟩
end Go.Ab
end H3s
