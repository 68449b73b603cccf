/- Walks of functions, part 13. No condition. -/
import Derived.Test.YtddacpkeacbjfaaGreatDoorB11
set_option maxRecDepth 100000
set_option linter.all false
namespace Go.Ab
open Go.Ab
def z164:Spec:=⟨161,[(.sl 1 [(uS .u8 4),(uS .u8 4),(uS .u8 8),(uS .u8 48)] false)],.own 1 (uL .u8 64)⟩
def anQ:ZQ:=z164::anG
def ayv:av Pg anQ:=ax anH [] [] (by kernel_rfl)
def anR:ZQ:=⟨161,[(.sl 1 [(uS .u8 4),(uS .u8 4),(uS .u8 8),(uS .u8 64)] false)],.own 1 (uL .u8 80)⟩::anQ
def ayw:av Pg anR:=ax ayv [] [] (by kernel_rfl)
def anS:ZQ:=⟨161,[(.sl 1 [(uS .u8 4),(uS .u8 4),(uS .u8 8),(uS .u8 80)] false)],.own 1 (uL .u8 96)⟩::anR
def ayx:av Pg anS:=ax ayw [] [] (by kernel_rfl)
def anT:ZQ:=⟨161,[(.sl 1 [(uS .u8 4),(uS .u8 4),(uS .u8 8),(uS .u8 96)] false)],.own 1 (uL .u8 112)⟩::anS
def ayy:av Pg anT:=ax ayx [] [] (by kernel_rfl)
def z168:Spec:=⟨273,[(.st 3 [(uI .u32),(uI .u64),(uS .u8 48)])],.gen (.tup [(.rs KB [] 0 64 64 1 .tip),(uI .i64)]) 1 (uL .u8 64)⟩
def anU:ZQ:=z168::anT
def anV:av Pg anU:=ax ayy [15,18,22] [] (by kernel_rfl)
def anW:Spec:=⟨273,[(.st 3 [(uI .u32),(uI .u64),(uS .u8 64)])],.gen (.tup [(.rs KB [] 0 80 80 1 .tip),(uI .i64)]) 1 (uL .u8 80)⟩
def anX:ZQ:=anW::anU
def anY:av Pg anX:=ax anV [15,18,22] [] (by kernel_rfl)
def anZ:Spec:=⟨273,[(.st 3 [(uI .u32),(uI .u64),(uS .u8 80)])],.gen (.tup [(.rs KB [] 0 96 96 1 .tip),(uI .i64)]) 1 (uL .u8 96)⟩
def an0:ZQ:=anZ::anX
def an1:av Pg an0:=ax anY [15,18,22] [] (by kernel_rfl)
def z171:Spec:=⟨273,[(.st 3 [(uI .u32),(uI .u64),(uS .u8 96)])],.gen (.tup [(.rs KB [] 0 112 112 1 .tip),(uI .i64)]) 1 (uL .u8 112)⟩
def an2:ZQ:=z171::an0
def an3:av Pg an2:=ax an1 [15,18,22] [] (by kernel_rfl)
end Go.Ab
