/- Functions of the program as the abstract reading has them. Written by program. No condition. -/
import Derived.Test.YtlcojgogfjlceaaGreatDoorESI
set_option maxRecDepth 100000
set_option maxHeartbeats 0
set_option linter.defProp false
noncomputable section
namespace Go.Ab
open Go.Ab.Q
def R.di:C 20:=⟨_,by cbv⟩
def R.nv:RF Pg [] [10,11,12,13,14,15,18,19,20,27,28,29,30,31] 45:=⟨_,by cbv⟩
def R.cR:RF Pg [] [32,31,27] 99:=⟨_,by cbv⟩
def R.ll:C 159:=⟨_,by cbv⟩
def R.ko:C 226:=⟨_,by cbv⟩
def R.pd:C 287:=⟨_,by cbv⟩
def R.iw:C 326:=⟨_,by cbv⟩
def F.ij:cZ:=
 ⟨92,[.load true 3 (x 6)],w ([u 3 (.box (x 0)),u 6 (.alloc (.ar 1 3 (zr 3 z8)))]) (.seq (.region (⟨_,by cbv⟩:D 381 1).1) (.seq (.regionD (⟨_,by cbv⟩:D 381 2).1 [0,1,2,3,4,5,6,7,8,9,10] [0,1,3,4,5,7,8,9]) (.seq (.regionD (⟨_,by cbv⟩:D 381 3).1 [0,1,2,3,4,5,6,7,8,9,10] [0,1,3,4,5,7,8,9]) (.seq (.region (⟨_,by cbv⟩:D 381 4).1) (.seq (.region (⟨_,by cbv⟩:D 381 5).1) (.seq (.region (⟨_,by cbv⟩:D 381 6).1) (.seq (.region (⟨_,by cbv⟩:D 381 7).1) (.seq (.region (⟨_,by cbv⟩:D 381 8).1) (.seq (.region (⟨_,by cbv⟩:D 381 9).1) (.seq (.region (⟨_,by cbv⟩:D 381 10).1) (.ret)))))))))))⟩
def T.ij:= @t0 381 F.ij (by kernel_rfl)
def R.jz:C 52:=⟨_,by cbv⟩
def R.eH:C 58:=⟨_,by cbv⟩
def R.oT:C 82:=⟨_,by cbv⟩
def R.uN:C 106:=⟨_,by cbv⟩
def F.my:cZ:=
 ⟨107,[.load true 32 (x 4)],.seq (.region (⟨_,by cbv⟩:D 172 0).1) (.seq (.region (⟨_,by cbv⟩:D 172 1).1) (.seq (.region (⟨_,by cbv⟩:D 172 2).1) (.seq (.regionD (⟨_,by cbv⟩:D 172 3).1 [0,1,2,3,4,5,6,7,8,9,10,11] [2,4,5,6,7,8,9]) (w ([o 11 (.mv (.c (.int .u8 0)))]) (.seq (w ([o 12 (.mv (i 254))]) (.block 0 (.loop (lk (.seq (w ([m 29 12,o 30 (.bin .geq .no (x 29) (i 0))]) (.cond (x 30) (.skip) (.exit 0))) (.seq (.block 1 (.seq (.region (⟨_,by cbv⟩:D 172 7).1) (.seq (.seq (.region (⟨_,by cbv⟩:D 172 8).1) (.cond (x 43) (.regionD (⟨_,by cbv⟩:D 172 9).1 [0,1,2,3,4,5,6,7] [2,4,5]) (.skip))) (w ([m 48 13,m 11 48]) (.seq (.regionD (⟨_,by cbv⟩:D 172 11).1 [0,1,2,3,4,5,6,7,8,9] [0,1,2,3,4,5,6,7]) (.seq (.regionD (⟨_,by cbv⟩:D 172 12).1 [0,1,2,3,4,5,6,7,8,9] [0,1,2,3,4,5,6,7]) (.seq (.region (⟨_,by cbv⟩:D 172 13).1) (.seq (.regionD (⟨_,by cbv⟩:D 172 14).1 [0,1,2,3,4,5,6,7,8,9,10,11,12,13] [0,1,2,3,4,5,6,7,8,9,10,11]) (.seq (.region (⟨_,by cbv⟩:D 172 15).1) (.seq (.region (⟨_,by cbv⟩:D 172 16).1) (.region (⟨_,by cbv⟩:D 172 17).1))))))))))) (.region (⟨_,by cbv⟩:D 172 18).1))))))) (lk (.seq (w ([m 98 11,o 99 (.bin .eql .no (x 98) (.c (.int .u8 1)))]) (.cond (x 99) (.regionD (⟨_,by cbv⟩:D 172 20).1 [0,1,2,3] [1,2]) (.skip))) (.seq (.region (⟨_,by cbv⟩:D 172 21).1) (.ret)))))))))⟩
def T.my:= @t0 172 F.my (by kernel_rfl)
def R.gS:RF Pg [] [89,88] 4:=⟨⟨94,[.mv (x 2)],w ([o 2 (.mv (.c (.bl false)))]) (.seq (.region (⟨_,by cbv⟩:RL [] [89,88] 4 1).1) (.seq (.seq (.region (⟨_,by cbv⟩:RL [] [89,88] 4 2).1) (.block 0 (.loop (lk (w ([o 17 (.bin .lss .no (x 16) (x 15))]) (.seq (.cond (x 17) (.skip) (.exit 0)) (.seq (.block 1 (w ([m 18 16,m 4 18]) (.regionD (⟨_,by cbv⟩:RL [] [89,88] 4 5).1 [0,1,2,3,4,5,6,7,8,9,10,11,12] [3,4,9]))) (.region [o 30 (.bin .add .no (x 16) (i 1)),m 16 30])))))))) (lk (.seq (.seq (.region (⟨_,by cbv⟩:RL [] [89,88] 4 7).1) (.block 2 (.loop (lk (.seq (.seq (.region (⟨_,by cbv⟩:RL [] [89,88] 4 8).1) (.cond (x 41) (.skip) (.exit 2))) (.block 3 (.seq (.region (⟨_,by cbv⟩:RL [] [89,88] 4 9).1) (.seq (.seq (.region (⟨_,by cbv⟩:RL [] [89,88] 4 10).1) (.cond (x 62) (w ([o 2 (.mv (.c (.bl false)))]) (.ret)) (.skip))) (.region [o 63 (.load true 148 (x 6)),s 148 3 63]))))))))) (lk (.seq (.seq (.region (⟨_,by cbv⟩:RL [] [89,88] 4 13).1) (.block 4 (.loop (lk (w ([o 68 (.bin .lss .no (x 67) (x 66))]) (.seq (.cond (x 68) (.skip) (.exit 4)) (.seq (.block 5 (.seq (.region (⟨_,by cbv⟩:RL [] [89,88] 4 15).1) (.seq (.region (⟨_,by cbv⟩:RL [] [89,88] 4 16).1) (.cond (x 79) (w ([o 2 (.mv (.c (.bl false)))]) (.ret)) (.skip))))) (.region [o 80 (.bin .add .no (x 67) (i 1)),m 67 80])))))))) (lk (.seq (.region (⟨_,by cbv⟩:RL [] [89,88] 4 19).1) (.ret)))))))))⟩,by kernel_rfl⟩
def R.gW:C 35:=⟨_,by cbv⟩
def R.bB:C 53:=⟨_,by cbv⟩
def R.rM:C 77:=⟨_,by cbv⟩
def R.rV:C 101:=⟨_,by cbv⟩
def R.lg:C 155:=⟨_,by cbv⟩
def F.mD:cZ:=
 ⟨31,[.mv (x 2)],w ([u 1 (.box (x 0)),o 2 (.mv (.c (.bl false)))]) (w ([o 3 (.mv (i 32))]) (.seq (.seq (.region (⟨_,by cbv⟩:RL [] [29] 173 2).1) (.cond (x 6) (.region [o 3 (.mv (i 128))]) (.skip))) (.seq (.region (⟨_,by cbv⟩:RL [] [29] 173 4).1) (.ret))))⟩
def T.mD:=t1 [] [29] 173 F.mD (by kernel_rfl)
def R.oR:C 258:=⟨_,by cbv⟩
def R.dU:C 302:=⟨_,by cbv⟩
def R.dq:C 328:=⟨_,by cbv⟩
def F.oH:cZ:=
 ⟨92,[.load true 16 (x 2)],w ([u 1 (.box (x 0)),u 2 (.alloc (.ar 1 16 (zr 16 (.int .u32 0))))]) (.seq (.region (⟨_,by cbv⟩:D 377 1).1) (.seq (w ([o 10 (.mv (i 0))]) (.block 0 (.loop (lk (w ([o 11 (.bin .lss .no (x 10) (i 10))]) (.seq (.cond (x 11) (.skip) (.exit 0)) (.seq (.block 1 (.seq (w ([o 12 (.mv (i 0))]) (.block 2 (.loop (lk (w ([o 13 (.bin .lss .no (x 12) (i 4))]) (.seq (.cond (x 13) (.skip) (.exit 2)) (.seq (.block 3 (w ([m 14 12,m 4 14]) (.regionD (⟨_,by cbv⟩:D 377 7).1 [0,1,2,3,4,5,6,7,8,9,10,11,12,13,14,15,16,17,18,19,20,21,22,23,24,25,26,27,28,29,30,31,32,33,34,35] []))) (.region [o 47 (.bin .add .no (x 12) (i 1)),m 12 47])))))))) (lk (w ([o 48 (.mv (i 0))]) (.block 4 (.loop (lk (w ([o 49 (.bin .lss .no (x 48) (i 4))]) (.seq (.cond (x 49) (.skip) (.exit 4)) (.seq (.block 5 (w ([m 50 48,m 5 50]) (.seq (.region (⟨_,by cbv⟩:D 377 12).1) (.region (⟨_,by cbv⟩:D 377 13).1)))) (.region [o 89 (.bin .add .no (x 48) (i 1)),m 48 89]))))))))))) (lk (.region [o 90 (.bin .add .no (x 10) (i 1)),m 10 90]))))))))) (lk (w ([o 91 (.load true 16 (x 3)),s 16 2 91]) (.ret)))))⟩
def T.oH:= @t0 377 F.oH (by kernel_rfl)
def R.xh:C 102:=⟨_,by cbv⟩
def F.dV:cZ:=
 ⟨61,[],.seq (.regionD (⟨_,by cbv⟩:D 114 0).1 [0,1,2,3,4,5,6,7,8,9,10,11,12,13,14,15,16,17,18] [1,2,4,5,6,7,8,10,15]) (.seq (w ([m 26 10,o 27 (.bin .neq .no (x 26) (i 0))]) (.cond (x 27) (.ret) (.skip))) (.seq (.regionD (⟨_,by cbv⟩:D 114 2).1 [0,1,2,3,4,5,6,7,8,9,10,11,12,13,14,15,16,17,18,19,20,21,22,23,24,25,26,27] []) (.seq (.region (⟨_,by cbv⟩:D 114 3).1) (.region (⟨_,by cbv⟩:D 114 4).1))))⟩
def T.dV:= @t0 114 F.dV (by kernel_rfl)
def R.kD:C 265:=⟨_,by cbv⟩
def R.oY:C 329:=⟨_,by cbv⟩
def F.vi:cZ:=
 ⟨67,[.load true 16 (x 4)],w ([u 2 (.box (x 0)),u 4 (.alloc Wa)]) (.seq (.region (⟨_,by cbv⟩:RL [34,36,42,52,54] [] 356 1).1) (.seq (.region (⟨_,by cbv⟩:RL [34,36,42,52,54] [] 356 2).1) (w ([u 7 (.alloc (.ar 1 3 (zr 3 z8)))]) (.seq (.block 0 (.loop (lk (.seq (.seq (.region (⟨_,by cbv⟩:RL [34,36,42,52,54] [] 356 4).1) (.cond (x 18) (.skip) (.exit 0))) (.block 1 (.seq (.region (⟨_,by cbv⟩:RL [34,36,42,52,54] [] 356 5).1) (w ([u 9 (.alloc (.ar 1 24 (zr 24 (.int .u8 0))))]) (.seq (.region (⟨_,by cbv⟩:RL [34,36,42,52,54] [] 356 7).1) (.seq (.region (⟨_,by cbv⟩:RL [34,36,42,52,54] [] 356 8).1) (.seq (.region (⟨_,by cbv⟩:RL [34,36,42,52,54] [] 356 9).1) (.seq (.regionD (⟨_,by cbv⟩:RL [34,36,42,52,54] [] 356 10).1 [0,1,3,2,4,5,6,7] [0,3,2,4]) (.seq (.regionD (⟨_,by cbv⟩:RL [34,36,42,52,54] [] 356 11).1 [0,1,2,3,4,5,6] [0,1,3]) (.region (⟨_,by cbv⟩:RL [34,36,42,52,54] [] 356 12).1))))))))))))) (lk (.seq (.regionD (⟨_,by cbv⟩:RL [34,36,42,52,54] [] 356 13).1 [0,1,2,4,3,5,6,7,8] [4,3]) (.seq (.region (⟨_,by cbv⟩:RL [34,36,42,52,54] [] 356 14).1) (.ret))))))))⟩
def T.vi:=t1 [34,36,42,52,54] [] 356 F.vi (by kernel_rfl)
def R.sH:C 55:=⟨_,by cbv⟩
def R.jI:C 67:=⟨_,by cbv⟩
def R.rX:C 103:=⟨_,by cbv⟩
def F.im:cZ:=
 ⟨116,[.mv (x 2)],w ([u 1 (.box (x 0)),o 2 (.mv (.c (.bl false)))]) (.seq (.seq (.region (⟨_,by cbv⟩:D 188 1).1) (.cond (x 20) (w ([o 2 (.mv (.c (.bl false)))]) (.ret)) (.skip))) (w ([o 3 (.mv (i 0))]) (.seq (.seq (.region (⟨_,by cbv⟩:D 188 4).1) (.block 0 (.loop (lk (w ([o 25 (.bin .lss .no (x 24) (x 23))]) (.seq (.cond (x 25) (.skip) (.exit 0)) (.seq (.block 1 (.seq (.region (⟨_,by cbv⟩:D 188 6).1) (.seq (.seq (.region (⟨_,by cbv⟩:D 188 7).1) (.cond (x 30) (.seq (.region (⟨_,by cbv⟩:D 188 8).1) (.seq (.seq (.region (⟨_,by cbv⟩:D 188 9).1) (.cond (x 52) (w ([o 2 (.mv (.c (.bl false)))]) (.ret)) (.skip))) (.region (⟨_,by cbv⟩:D 188 11).1))) (.skip))) (.seq (.seq (.region (⟨_,by cbv⟩:D 188 12).1) (.block 2 (.loop (lk (w ([o 60 (.bin .lss .no (x 59) (x 58))]) (.seq (.cond (x 60) (.skip) (.exit 2)) (.seq (.block 3 (.seq (.region (⟨_,by cbv⟩:D 188 14).1) (.seq (.region (⟨_,by cbv⟩:D 188 15).1) (.seq (.seq (.region (⟨_,by cbv⟩:D 188 16).1) (.cond (x 83) (w ([o 2 (.mv (.c (.bl false)))]) (.ret)) (.skip))) (.region (⟨_,by cbv⟩:D 188 18).1))))) (.region [o 86 (.bin .add .no (x 59) (i 1)),m 59 86])))))))) (lk (.seq (.region (⟨_,by cbv⟩:D 188 20).1) (.seq (.region (⟨_,by cbv⟩:D 188 21).1) (.block 4 (.loop (lk (w ([o 93 (.bin .lss .no (x 92) (x 91))]) (.seq (.cond (x 93) (.skip) (.exit 4)) (.seq (.block 5 (.seq (.region (⟨_,by cbv⟩:D 188 23).1) (.seq (.region (⟨_,by cbv⟩:D 188 24).1) (.block 6 (.loop (lk (w ([o 102 (.bin .lss .no (x 101) (x 100))]) (.seq (.cond (x 102) (.skip) (.exit 6)) (.seq (.block 7 (.seq (.region (⟨_,by cbv⟩:D 188 26).1) (.seq (.region (⟨_,by cbv⟩:D 188 27).1) (.cond (x 107) (w ([o 2 (.mv (.c (.bl false)))]) (.ret)) (.skip))))) (.region [o 108 (.bin .add .no (x 101) (i 1)),m 101 108])))))))))) (lk (.region [o 109 (.bin .add .no (x 92) (i 1)),m 92 109]))))))))))))))) (lk (.region [o 110 (.bin .add .no (x 24) (i 1)),m 24 110]))))))))) (lk (.seq (.region (⟨_,by cbv⟩:D 188 32).1) (.ret))))))⟩
def T.im:= @t0 188 F.im (by kernel_rfl)
def R.n6:RF Pg [] [43,41,40] 50:=⟨_,by cbv⟩
def R.nu:RF Pg [17,18] [] 80:=⟨_,by cbv⟩
def R.jy:C 92:=⟨_,by cbv⟩
def R.kH:C 98:=⟨_,by cbv⟩
def R.jj:RF Pg [19] [] 158:=⟨_,by cbv⟩
def F.gF:cZ:=
 ⟨64,[.mv (x 2)],w ([u 1 (.box (x 0)),o 2 (.mv (.c (.bl false)))]) (.seq (.seq (.region (⟨_,by cbv⟩:RL [] [29,30,37,38,39,40,41,42,43,44] 189 1).1) (.cond (x 11) (w ([o 2 (.mv (.c (.bl false)))]) (.ret)) (.skip))) (.seq (.seq (.region (⟨_,by cbv⟩:RL [] [29,30,37,38,39,40,41,42,43,44] 189 3).1) (.block 0 (.loop (lk (w ([o 16 (.bin .lss .no (x 15) (x 14))]) (.seq (.cond (x 16) (.skip) (.exit 0)) (.seq (.block 1 (.seq (.region (⟨_,by cbv⟩:RL [] [29,30,37,38,39,40,41,42,43,44] 189 5).1) (.seq (.region (⟨_,by cbv⟩:RL [] [29,30,37,38,39,40,41,42,43,44] 189 6).1) (.seq (.region (⟨_,by cbv⟩:RL [] [29,30,37,38,39,40,41,42,43,44] 189 7).1) (.cond (x 45) (w ([o 2 (.mv (.c (.bl false)))]) (.ret)) (.skip)))))) (.region [o 46 (.bin .add .no (x 15) (i 1)),m 15 46])))))))) (lk (.seq (.seq (.region (⟨_,by cbv⟩:RL [] [29,30,37,38,39,40,41,42,43,44] 189 10).1) (.block 2 (.loop (lk (w ([o 51 (.bin .lss .no (x 50) (x 49))]) (.seq (.cond (x 51) (.skip) (.exit 2)) (.seq (.block 3 (.seq (.region (⟨_,by cbv⟩:RL [] [29,30,37,38,39,40,41,42,43,44] 189 12).1) (.seq (.region (⟨_,by cbv⟩:RL [] [29,30,37,38,39,40,41,42,43,44] 189 13).1) (.cond (x 62) (w ([o 2 (.mv (.c (.bl false)))]) (.ret)) (.skip))))) (.region [o 63 (.bin .add .no (x 50) (i 1)),m 50 63])))))))) (lk (w ([o 2 (.mv (.c (.bl true)))]) (.ret)))))))⟩
def T.gF:=t1 [] [29,30,37,38,39,40,41,42,43,44] 189 F.gF (by kernel_rfl)
def R.oe:C 162:=⟨_,by cbv⟩
def R.iX:C 79:=⟨_,by cbv⟩
def R.NU:RF Pg [18] [] 317:=⟨_,by cbv⟩
def R.sch:C 229:=⟨_,by cbv⟩
def R.sse:RF Pg [16] [] 232:=⟨⟨24,[.mv (x 6)],w ([u 4 (.box (x 1)),o 6 (.mv (.c (.sl 1 [] true)))]) (.seq (.regionD (⟨_,by cbv⟩:RL [16] [] 232 1).1 [0,1,2,3,4,5,6,7,8,9,10,11,12] [1,2,3,4,10]) (.seq (.region (⟨_,by cbv⟩:RL [16] [] 232 2).1) (w ([m 23 8,m 6 23]) (.ret))))⟩,by kernel_rfl⟩
def F.mse:cZ:=⟨41,[.mv (x 8),.load true 16 (x 9)],.seq (.region (⟨_,by cbv⟩:RL [37,38] [] 236 0).1) (.seq (.region (⟨_,by cbv⟩:RL [37,38] [] 236 1).1) (.seq (.regionD (⟨_,by cbv⟩:RL [37,38] [] 236 2).1 [0,1,2,3,4,5,6,7,8] [0,3,5,6,7]) (.seq (.region (⟨_,by cbv⟩:RL [37,38] [] 236 3).1) (.seq (w ([m 27 1]) (.cond (x 27) (.regionD (⟨_,by cbv⟩:RL [37,38] [] 236 5).1 [0,1,2,3,4,5,6,7,8,9,10,11] [1,9]) (.skip))) (.seq (.region (⟨_,by cbv⟩:RL [37,38] [] 236 6).1) (.ret))))))⟩
def T.mse:=t1 [37,38] [] 236 F.mse (by kernel_rfl)
def F.acV:cq:= .seq (w ([m 38 5,m 39 4,o 40 (.bin .lss .no (x 38) (x 39))]) (.cond (x 40) (.skip) (.exit 0))) (.seq (.block 1 (w ([m 43 5,c 44 16 [(x 43)],m 45 0,c 46 15 [(x 45),(i 8)],o 47 (.bin .gtr .no (x 46) (i 0)),u 48 (.build (.st 464 [E6,E6,(.bl false),zE,z4,z12,(.bl false),z4,zH,(.bl false),Wa,z4,Wa,zR,(.sl 1 [] true)]) [(0,(x 44)),(2,(x 47))]),u 6 (.alloc (.st 464 [E6,E6,(.bl false),zE,z4,z12,(.bl false),z4,zH,(.bl false),Wa,z4,Wa,zR,(.sl 1 [] true)])),s 464 6 48]) (.seq (w ([f 49 2 64 6,l 50 49]) (.cond (x 50) (.region [m 51 5,c 52 17 [(x 51)],f 53 3 65 6,s 18 53 52]) (.skip))) (.seq (w ([m 54 0,c 55 15 [(x 54),(i 4)],o 56 (.bin .eql .no (x 55) (i 1))]) (.cond (x 56) (w ([m 57 0,c 58 15 [(x 57),(i 30)],o 59 (.bin .add .no (i 1) (x 58)),o 60 (.bin .mul .no (i 1000) (x 59)),f 61 4 83 6,s 1 61 60]) (.regionD [f 62 9 111 3,l 63 62,f 64 5 107 3,l 65 64,o 66 (.bin .add .no (x 65) (i 1)),m 67 0,c 68 15 [(x 67),(i 200)],o 69 (.bin .mul .no (x 68) (i 10)),o 70 (.bin .add .no (x 66) (x 69)),f 71 0 0 6,o 72 (.load true 32 (x 71)),u 73 (.build (.st 34 [z4,E6,z4]) [(0,(x 70)),(1,(x 72)),(2,(i 4))]),q 74 18 [(x 63),(x 73)],f 75 9 111 3,s 1 75 74] [0,1,2,3,4,5,9,10,6,7,8,11,12,13,14] [0,1,2,3,9,10,6])) (.skip))) (w ([f 76 6 108 3,l 77 76,o 78 (.load true 464 (x 6)),u 79 (.buildSlice false 464 (.st 464 [E6,E6,(.bl false),zE,z4,z12,(.bl false),z4,zH,(.bl false),Wa,z4,Wa,zR,(.sl 1 [] true)]) 1 [(0,(x 78))]),u 80 (.append 464 808 false (x 77) (x 79)),f 81 6 108 3,s 1 81 80]) (.region [f 83 7 109 3,l 84 83,m 85 5,o 86 (.bin .add .no (x 85) (i 1)),q 87 21 [(x 86),(i 0)],q 88 20 [(x 87),(i 16)],f 89 0 0 6,o 90 (.load true 32 (x 89)),q 91 19 [(x 84),(x 88),(x 90)],m 82 91,o 92 (.extract 0 (x 82)),o 93 (.extract 1 (x 82)),f 94 7 109 3,s 1 94 92])))))) (.region [m 41 5,o 42 (.bin .add .no (x 41) (i 1)),m 5 42]))
def F.acU:cq:= .seqm (w ([m 102 8,o 103 (.bin .gtr .no (x 102) (i 0))]) (.cond (x 103) (.skip) (.exit 4))) (.seq (.block 5 (.regionD [o 107 (.load true 148 (x 3)),m 108 7,q 109 16 [(x 108)],m 110 0,o 111 (.load true 148 (x 3)),m 112 7,o 113 (.bin .mul .no (i 10) (x 112)),m 114 8,o 115 (.bin .add .no (x 113) (x 114)),o 116 (.convI .u32 (x 115)),c 117 23 [(x 110),(x 111),(x 116)],m 118 0,c 119 24 [(x 118)],c 120 22 [(x 107),(x 109),(x 117),(x 119)],m 106 120,o 121 (.extract 0 (x 106)),o 122 (.extract 1 (x 106)),s 148 3 121] [0,1,2,3,4,5,6,7,8,9,11,10,12,13,14,15,16,17] [0,10,12])) (.region [m 104 8,o 105 (.bin .sub .no (x 104) (i 1)),m 8 105]))
def F.ama:cq:= .region [m 98 7,o 99 (.bin .add .no (x 98) (i 1)),m 7 99]
def F.acT:cq:= .seq (w ([m 95 7,m 96 4,o 97 (.bin .lss .no (x 95) (x 96))]) (.cond (x 97) (.skip) (.exit 2))) (.seq (.block 3 (w ([m 100 0,c 101 15 [(x 100),(i 4)],m 8 101]) (.block 4 (.loop F.acU))))
 F.ama)
def F.amb:cq:=w ([o 123 (.load true 148 (x 3)),s 148 2 123]) (.ret)
def F.acS:cq:= .seq (w ([o 7 (.mv (i 0))]) (.block 2 (.loop F.acT)))
 F.amb
def F.D2:cZ:=⟨124,[.load true 148 (x 2)],w ([u 2 (.alloc zM)]) (w ([m 9 0,c 10 12 [(x 9)],m 11 0,c 12 13 [(x 11)],m 13 0,c 14 13 [(x 13)],m 15 0,c 16 14 [(x 15),(i 65536)],m 17 0,c 18 13 [(x 17)],m 19 0,c 20 14 [(x 19),(i 16777216)],u 21 (.build zM [(0,(x 10)),(1,(x 12)),(2,(x 14)),(3,(x 16)),(4,(x 18)),(5,(x 20))]),u 3 (.alloc zM),s 148 3 21]) (.seq (.regionD [m 22 0,c 23 13 [(x 22)],f 24 5 107 3,l 25 24,m 26 0,c 27 15 [(x 26),(i 2)],f 28 5 107 3,l 29 28,o 30 (.mm false [(x 29),(i 20000)]),o 31 (.bin .mul .no (x 27) (x 30)),o 32 (.bin .sub .no (x 25) (x 31)),f 33 10 112 3,s 32 33 23,f 34 11 144 3,s 1 34 32] [0,2,3,4,6,7,8,1,11,5,9,10,12,13,14] [2,3,6,7,11,1,5]) (w ([m 35 0,c 36 15 [(x 35),(i 2)],o 37 (.bin .add .no (i 2) (x 36)),m 4 37]) (.seq (w ([o 5 (.mv (i 0))]) (.block 0 (.loop F.acV)))
 F.acS))))⟩
theorem T.D2:mX Pg [68,117,119,23,27,120] [] 5=some F.D2.er:=by kernel_rfl
end Go.Ab
