/- What burrowmake.Daemon makes. No condition. -/
import Derived.Test.YtdfkcobijmbidaaGreatB6
set_option linter.all false
noncomputable section H3as
namespace Go.Ab
open Go.Ab
def zD:PV:=PV.st 148 [PV.st 10 [.int .u64 0,.int .u64 0,.int .i64 0,.int .i64 0,.int .i64 0,.int .i64 0,.int .i64 0,.int .i64 0,.int .i64 0,.int .i64 0],
 .ar 1 32 (zr 32 (.int .u8 0)),.ar 1 32 (zr 32 (.int .u8 0)),.int .i64 0,.ar 1 32 (zr 32 (.int .u8 0)),.int .i64 0,.sl 464 [] true,.sl 50 [] true,.sl 34 [] true,.sl 34 [] true,
 .ar 1 32 (zr 32 (.int .u8 0)),.int .i64 0,.sl 1 [] true,.sl 19 [] true,.int .i64 0]
@[simp] theorem afF:zD.width=148:=rfl
@[simp] theorem aqk (ρ:Nat->Nat):aF ρ zD=zD:=by simp[zD]
@[simp] theorem anS (f:Nat->Bool):ab f zD=true:=by simp[zD]
@[simp] theorem aql (k sz:Nat) (l:List PV):gh k sz l zD=zD:=by simp[zD]
theorem mB.mono {d:bU} {l:List fS} {m k:Nat} (h:mB d l m) (hk:m≤k):mB d l k:=⟨h.so,h.rg,h.un,Nat.le_trans h.len hk⟩
def aqm (d:bU) (m:Int):Prop:=∀x∈d.aM,0≤x.index∧x.index<m
def Bd (d:bU):Prop:=∀x∈d.aM,0≤x.index∧x.index≤1000
theorem Ku {d:bU} {i:Nat} {hi:i<d.aj.length} {s:jt} {own:Bool} {x:ja} (h:x∈(lD d i hi s own).aM):x.index=s.loc∨x∈d.aM:=by
 rcases List.mem_cons.1 ((pZ _ _).mem_iff.1 h)with h|h
 ·left;rw[h]
 ·right;exact rL h
theorem Co {d:bU} {i:Nat} {hi:i<d.aj.length} {s:jt} {own:Bool}:(lD d i hi s own).aj.length=d.aj.length:=List.length_set
end Go.Ab
end H3as
noncomputable section H3s
namespace Go.Ab
open Go.Ab
def Yd:lB:=⟨pU,pU,pU⟩
def pz (i:Nat) (e:Bool) (k:Int):dC:=⟨nn i,IM,e,if e=true then tB i else wG,k,zSm,false,0,rK,false,A5,0,A5,Yd,[]⟩
theorem NG:iU wG= .st 18 [.st 17 [.bl false,.ar 1 16 (zr 16 (.int .u8 0))],.int .i64 0]:=by rw[gC];rfl
theorem afG (i:Nat) (k:Int):aP (pz i false k)= .st 464 [ey (nn i),IM.p,.bl false,.st 18 [.st 17 [.bl false,.ar 1 16 (zr 16 (.int .u8 0))],.int .i64 0],.int .i64 k,zSm.p,.bl false,.int .i64 0,jD rK,.bl false,A5.p,.int .i64 0,A5.p,fh Yd,gi []]:=by
 show PV.st 464 [ey (nn i),IM.p,.bl false,iU wG,.int .i64 k,zSm.p,.bl false,.int .i64 0,jD rK,.bl false,A5.p,.int .i64 0,A5.p,fh Yd,gi []]=_
 rw[NG]
theorem IU {d:bU} {i:Nat} (hi:i<3) {e:Bool} {k:Int} (hk:k=0∨1000≤k∧k≤1073741824):lU d (pz i e k):=by
 refine⟨?_,hk,rfl,rfl,rfl,rfl,rfl,rfl,rfl,.z d,.z d,.z d⟩
 cases e
 ·exact Or.inr ⟨rfl,rfl⟩
 ·exact Or.inl ⟨rfl,i,hi,rfl⟩
end Go.Ab
end H3s
