/- Functions as they are read. No condition. -/
import Derived.Test.YtddacpkeacbjfaaGreatDoorSI
set_option maxRecDepth 100000
set_option maxHeartbeats 0
set_option linter.defProp false
noncomputable section
namespace Go.Ab
open Go.Ab.Q
def R.nJ:C 50:=⟨_,by cbv⟩
def R.dG:C 110:=⟨_,by cbv⟩
def R.nY:C 177:=⟨_,by cbv⟩
def R.gu:C 243:=⟨_,by cbv⟩
def R.zO:C 292:=⟨_,by cbv⟩
def R.mK:RF Pg [] [35,33,32,31,30,29,28] 9:=⟨_,by cbv⟩
def F.fI:dP:=
 ⟨102,[.load true 148 (x 8),.mv (x 9)],.seq (.region (⟨_,by cbv⟩:D 33 0).1) (.seq (.seq (.region (⟨_,by cbv⟩:D 33 1).1) (.cond (x 18) (.seq (.region (⟨_,by cbv⟩:D 33 2).1) (.ret)) (.skip))) (.seq (.region (⟨_,by cbv⟩:D 33 3).1) (.seq (w ([m 23 10,o 24 (.bin .lss .no (x 23) (i 0))]) (.cond (x 24) (.seq (.region (⟨_,by cbv⟩:D 33 5).1) (.ret)) (.skip))) (.seq (.seq (.region (⟨_,by cbv⟩:D 33 6).1) (.seq (.region (⟨_,by cbv⟩:D 33 7).1) (.cond (x 39) (.seq (.region (⟨_,by cbv⟩:D 33 8).1) (.ret)) (.skip)))) (.seq (.seq (.region (⟨_,by cbv⟩:D 33 9).1) (.cond (x 44) (.seq (.region (⟨_,by cbv⟩:D 33 10).1) (.ret)) (.skip))) (.seq (.region (⟨_,by cbv⟩:D 33 11).1) (.seq (.region (⟨_,by cbv⟩:D 33 12).1) (w ([o 15 (.mv (.c (.sl 1 [] true)))]) (.seq (w ([m 54 3]) (.cond (x 54) (.region (⟨_,by cbv⟩:D 33 15).1) (.region (⟨_,by cbv⟩:D 33 16).1))) (.seq (.region (⟨_,by cbv⟩:D 33 17).1) (.seq (.region (⟨_,by cbv⟩:D 33 18).1) (.seq (.region (⟨_,by cbv⟩:D 33 19).1) (.seq (.region (⟨_,by cbv⟩:D 33 20).1) (.ret))))))))))))))⟩
def T.fI:= @t0 33 F.fI (by kernel_rfl)
def R.p8:C 251:=⟨_,by cbv⟩
def R.mD:C 287:=⟨_,by cbv⟩
def F.aeH:bT:=w ([o 17 (.bin .lss .no (x 16) (x 15))]) (.seq (.cond (x 17) (.skip) (.exit 0)) (.seq (.block 1 (w ([m 18 16,m 7 18]) (.seq (w ([m 19 6,c 20 12 [(x 19)]]) (.cond (x 20) (.regionD [f 21 6 108 5,l 22 21,m 23 7,f 24 6 108 5,l 25 24,m 26 7,f 27 6 108 5,l 28 27,m 29 7,m 30 7,o 31 (.convI .u8 (x 30)),u 32 (.build z16 [(0,(x 31)),(1,(.c (.int .u8 1)))]),f 33 5 107 5,l 34 33,u 35 (.bin .quo .no (x 34) (i 2)),u 36 (.indexA (.sl 464) (x 22) (x 23)),f 37 9 198 36,v (.store 1 (x 37) (.c (.bl true))),u 38 (.indexA (.sl 464) (x 25) (x 26)),f 39 10 199 38,s 16 39 32,u 40 (.indexA (.sl 464) (x 28) (x 29)),f 41 11 215 40,s 1 41 35] [0,1,2,3,4,5,6,7,8,9,10,11,12,13,14,15,16,17,18,19,20,21,22,23] [3,4,6,7,12,13,17,20]) (.skip))) (w ([m 42 6,c 43 12 [(x 42)]]) (.cond (x 43) (.regionD [f 44 6 108 5,l 45 44,m 46 7,q 47 14 [(i 0),(i 1)],m 48 7,o 49 (.bin .add .no (x 48) (i 1)),q 50 14 [(x 49),(i 1)],m 51 6,c 52 15 [(x 51),(i 30)],q 53 13 [(x 47),(x 50),(x 52),(.c (.int .u8 1))],u 54 (.buildSlice false 1 (.sl 1 [] true) 1 [(0,(x 53))]),u 55 (.indexA (.sl 464) (x 45) (x 46)),f 56 14 463 55,s 1 56 54] [0,1,2,3,4,5,6,7,8,9,10,11,12,13] [0,1,8]) (.skip)))))) (.region [o 57 (.bin .add .no (x 16) (i 1)),m 16 57])))
def F.aqX:bT:=w ([m 58 6,c 59 15 [(x 58),(i 5)],f 60 14 147 5,s 1 60 59]) (.seqm (w ([m 61 6,c 62 12 [(x 61)]]) (.cond (x 62) (w ([f 63 5 107 5,l 64 63,u 65 (.bin .quo .no (x 64) (i 2)),f 66 5 107 5,l 67 66,u 68 (.buildSlice false 1 z4 2 [(0,(x 65)),(1,(x 67))]),f 69 12 145 5,s 1 69 68]) (.region [f 70 5 107 5,l 71 70,u 72 (.build (.st 19 [zA,z4,z4]) [(1,(i 4000)),(2,(x 71))]),u 73 (.buildSlice false 19 (.st 19 [zA,z4,z4]) 1 [(0,(x 72))]),f 74 13 146 5,s 1 74 73])) (.skip))) (.seq (w ([m 75 6,c 76 15 [(x 75),(i 4)],o 77 (.bin .eql .no (x 76) (i 1))]) (.cond (x 77) (.regionD [o 79 (.load true 148 (x 5)),m 80 6,c 81 17 [(x 80)],c 82 16 [(x 79),(x 81)],m 78 82,o 83 (.extract 0 (x 78)),o 84 (.extract 1 (x 78)),s 148 5 83] [0,1,2,3,4,5,6,7] [0,2]) (.skip))) (w ([o 85 (.load true 148 (x 5)),s 148 4 85]) (.ret))))
def F.bz:dP:=⟨86,[.load true 148 (x 4)],w ([u 4 (.alloc zM)]) (w ([m 8 0,c 9 11 [(x 8),(i 160)],c 10 10 [(x 9)],u 5 (.alloc zM),s 148 5 10]) (w ([m 11 1,c 12 11 [(x 11),(i 40)],m 6 12]) (.seq (w ([f 13 6 108 5,l 14 13,o 15 (.len (x 14)),o 16 (.mv (i 0))]) (.block 0 (.loop F.aeH)))
 F.aqX)))⟩
theorem T.bz:eI Pg [52,81,82] [] 4=some F.bz.er:=by kernel_rfl
end Go.Ab
