/- Functions of the program as the abstract reading has them. Written by program. No condition. -/
import Derived.Test.YtlcojgogfjlceaaGreatDoorSI
set_option maxRecDepth 100000
set_option maxHeartbeats 0
set_option linter.defProp false
noncomputable section
namespace Go.Ab
open Go.Ab.Q
def R.kK:C 14:=⟨_,by cbv⟩
def R.bV:C 57:=⟨_,by cbv⟩
def R.ja:C 93:=⟨_,by cbv⟩
def F.dD:cM:=
 ⟨37,[.mv (x 4)],w ([o 4 (.mv (.c .np))]) (.seq (.seq (.region (⟨_,by cbv⟩:RL [] [30] 111 1).1) (.cond (x 31) (w ([o 4 (.mv (.c .np))]) (.ret)) (.skip))) (.seq (.region (⟨_,by cbv⟩:RL [] [30] 111 3).1) (.ret)))⟩
def T.dD:=t1 [] [30] 111 F.dD (by kernel_rfl)
def R.gO:C 250:=⟨_,by cbv⟩
def R.Ad:C 293:=⟨_,by cbv⟩
def F.ei:cM:=
 ⟨76,[.mv (x 4)],w ([o 4 (.mv (.c (.bl false)))]) (.seq (.seq (.region (⟨_,by cbv⟩:D 9 1).1) (.cond (x 12) (w ([o 4 (.mv (.c (.bl false)))]) (.ret)) (.skip))) (.seq (.seq (.region (⟨_,by cbv⟩:D 9 3).1) (.block 0 (.loop (lk (w ([o 16 (.bin .lss .no (x 15) (x 14))]) (.seq (.cond (x 16) (.skip) (.exit 0)) (.seq (.block 1 (w ([m 17 15,m 5 17]) (.seq (.regionD (⟨_,by cbv⟩:D 9 6).1 [0,1,2,3,4,5,6,7,8,9,10,11] [2,3,6,7,8,9,10]) (.seq (.region (⟨_,by cbv⟩:D 9 7).1) (.cond (x 74) (w ([o 4 (.mv (.c (.bl false)))]) (.ret)) (.skip)))))) (.region [o 75 (.bin .add .no (x 15) (i 1)),m 15 75])))))))) (lk (w ([o 4 (.mv (.c (.bl true)))]) (.ret)))))⟩
def T.ei:= @t0 9 F.ei (by kernel_rfl)
def R.lr:C 64:=⟨_,by cbv⟩
def R.tZ:C 100:=⟨_,by cbv⟩
def R.vu:RF Pg [] [28,45,39,72] 166:=⟨_,by cbv⟩
def F.iq:cM:=
 ⟨34,[.mv (x 2)],w ([u 1 (.box (x 0)),o 2 (.mv (.c (.bl false)))]) (.seq (.seq (.region (⟨_,by cbv⟩:RL [] [27,26,23,21] 185 1).1) (.block 0 (.loop (lk (w ([o 9 (.bin .lss .no (x 8) (x 7))]) (.seq (.cond (x 9) (.skip) (.exit 0)) (.seq (.block 1 (.seq (.region (⟨_,by cbv⟩:RL [] [27,26,23,21] 185 3).1) (.seq (.region (⟨_,by cbv⟩:RL [] [27,26,23,21] 185 4).1) (.cond (x 28) (w ([o 2 (.mv (.c (.bl false)))]) (.ret)) (.skip))))) (.region [o 29 (.bin .add .no (x 8) (i 1)),m 8 29])))))))) (lk (.seq (.region (⟨_,by cbv⟩:RL [] [27,26,23,21] 185 7).1) (.ret))))⟩
def T.iq:=t1 [] [27,26,23,21] 185 F.iq (by kernel_rfl)
def F.fh:cM:=
 ⟨17,[],.regionD (⟨_,by cbv⟩:D 301 0).1 [0,1,2,3,4,5,6,7,8,9,10,11] []⟩
def T.fh:= @t0 301 F.fh (by kernel_rfl)
def R.gL:C 339:=⟨_,by cbv⟩
def R.dL:C 368:=⟨_,by cbv⟩
def R.tY:C 390:=⟨_,by cbv⟩
def F.gk:cM:=
 ⟨102,[.load true 148 (x 8),.mv (x 9)],.seq (.region (⟨_,by cbv⟩:D 22 0).1) (.seq (.seq (.region (⟨_,by cbv⟩:D 22 1).1) (.cond (x 18) (.seq (.region (⟨_,by cbv⟩:D 22 2).1) (.ret)) (.skip))) (.seq (.region (⟨_,by cbv⟩:D 22 3).1) (.seq (w ([m 23 10,o 24 (.bin .lss .no (x 23) (i 0))]) (.cond (x 24) (.seq (.region (⟨_,by cbv⟩:D 22 5).1) (.ret)) (.skip))) (.seq (.seq (.region (⟨_,by cbv⟩:D 22 6).1) (.seq (.region (⟨_,by cbv⟩:D 22 7).1) (.cond (x 39) (.seq (.region (⟨_,by cbv⟩:D 22 8).1) (.ret)) (.skip)))) (.seq (.seq (.region (⟨_,by cbv⟩:D 22 9).1) (.cond (x 44) (.seq (.region (⟨_,by cbv⟩:D 22 10).1) (.ret)) (.skip))) (.seq (.region (⟨_,by cbv⟩:D 22 11).1) (.seq (.region (⟨_,by cbv⟩:D 22 12).1) (w ([o 15 (.mv (.c (.sl 1 [] true)))]) (.seq (w ([m 54 3]) (.cond (x 54) (.region (⟨_,by cbv⟩:D 22 15).1) (.region (⟨_,by cbv⟩:D 22 16).1))) (.seq (.region (⟨_,by cbv⟩:D 22 17).1) (.seq (.region (⟨_,by cbv⟩:D 22 18).1) (.seq (.region (⟨_,by cbv⟩:D 22 19).1) (.seq (.region (⟨_,by cbv⟩:D 22 20).1) (.ret))))))))))))))⟩
def T.gk:= @t0 22 F.gk (by kernel_rfl)
def F.jA:cM:=
 ⟨105,[.load true 5 (x 4)],.seq (.region (⟨_,by cbv⟩:D 264 0).1) (w ([u 5 (.alloc (.ar 2 5 (zr 5 (.st 2 [z8,z8]))))]) (.seq (w ([o 14 (.load true 5 (x 2)),o 15 (.mv (i 0))]) (.block 0 (.loop (lk (w ([o 16 (.bin .lss .no (x 15) (i 5))]) (.seq (.cond (x 16) (.skip) (.exit 0)) (.seq (.block 1 (.seq (.region (⟨_,by cbv⟩:D 264 4).1) (w ([o 19 (.load true 5 (x 3)),o 20 (.mv (i 0))]) (.block 2 (.loop (lk (w ([o 21 (.bin .lss .no (x 20) (i 5))]) (.seq (.cond (x 21) (.skip) (.exit 2)) (.seq (.block 3 (.seq (.region (⟨_,by cbv⟩:D 264 7).1) (.seq (.region (⟨_,by cbv⟩:D 264 8).1) (.cond (x 27) (.region (⟨_,by cbv⟩:D 264 9).1) (.region (⟨_,by cbv⟩:D 264 10).1))))) (.region [o 55 (.bin .add .no (x 20) (i 1)),m 20 55])))))))))) (lk (.region [o 56 (.bin .add .no (x 15) (i 1)),m 15 56]))))))))) (lk (.seq (.region (⟨_,by cbv⟩:D 264 13).1) (.seq (w ([o 57 (.load true 10 (x 5)),o 58 (.mv (i 0))]) (.block 4 (.loop (lk (w ([o 59 (.bin .lss .no (x 58) (i 5))]) (.seq (.cond (x 59) (.skip) (.exit 4)) (.seq (.block 5 (.seq (.region (⟨_,by cbv⟩:D 264 16).1) (.regionD (⟨_,by cbv⟩:D 264 17).1 [0,1,2,3,4,5,6,7,8,9,10,11,12,13,14,15] [5,6,8,9,13]))) (.region [o 76 (.bin .add .no (x 58) (i 1)),m 58 76])))))))) (lk (.seq (.region (⟨_,by cbv⟩:D 264 19).1) (.ret))))))))⟩
def T.jA:= @t0 264 F.jA (by kernel_rfl)
def F.fF:cM:=
 ⟨133,[],.seq (.seq (.region (⟨_,by cbv⟩:RL [82] [127] 66 0).1) (.cond (x 21) (.ret) (.skip))) (.seq (.region (⟨_,by cbv⟩:RL [82] [127] 66 1).1) (.seq (w ([m 25 4,o 26 (.bin .eql .ptr (x 25) (.c .np))]) (.cond (x 26) (.seq (.region (⟨_,by cbv⟩:RL [82] [127] 66 3).1) (.ret)) (.skip))) (.seq (.block 0 (.loop (lk (.seq (.seq (.region (⟨_,by cbv⟩:RL [82] [127] 66 4).1) (.cond (x 39) (.skip) (.exit 0))) (.seq (.block 1 (.seq (.region (⟨_,by cbv⟩:RL [82] [127] 66 5).1) (.seq (.region (⟨_,by cbv⟩:RL [82] [127] 66 6).1) (.region (⟨_,by cbv⟩:RL [82] [127] 66 7).1)))) (.region (⟨_,by cbv⟩:RL [82] [127] 66 8).1)))))) (lk (.seq (.region (⟨_,by cbv⟩:RL [82] [127] 66 9).1) (.seq (.region (⟨_,by cbv⟩:RL [82] [127] 66 10).1) (.seq (.region (⟨_,by cbv⟩:RL [82] [127] 66 11).1) (.seq (.region (⟨_,by cbv⟩:RL [82] [127] 66 12).1) (.cond (x 129) (.region (⟨_,by cbv⟩:RL [82] [127] 66 13).1) (.skip))))))))))⟩
def T.fF:=t1 [82] [127] 66 F.fF (by kernel_rfl)
def F.eT:cM:=
 ⟨34,[.mv (x 2)],w ([o 2 (.mv (.c (.bl false)))]) (.seq (.seq (.region (⟨_,by cbv⟩:RL [] [19,20,21,22,23,24,25,26,27,28] 284 1).1) (.block 0 (.loop (lk (w ([o 8 (.bin .lss .no (x 7) (x 6))]) (.seq (.cond (x 8) (.skip) (.exit 0)) (.seq (.block 1 (.seq (.region (⟨_,by cbv⟩:RL [] [19,20,21,22,23,24,25,26,27,28] 284 3).1) (.seq (.region (⟨_,by cbv⟩:RL [] [19,20,21,22,23,24,25,26,27,28] 284 4).1) (.cond (x 29) (w ([o 2 (.mv (.c (.bl false)))]) (.ret)) (.skip))))) (.region [o 30 (.bin .add .no (x 7) (i 1)),m 7 30])))))))) (lk (.seq (.region (⟨_,by cbv⟩:RL [] [19,20,21,22,23,24,25,26,27,28] 284 7).1) (.ret))))⟩
def T.eT:=t1 [] [19,20,21,22,23,24,25,26,27,28] 284 F.eT (by kernel_rfl)
def R.jR:C 24:=⟨_,by cbv⟩
def F.di:cM:=
 ⟨143,[.mv (x 4)],.seq (.region (⟨_,by cbv⟩:D 31 0).1) (.seq (.seq (.region (⟨_,by cbv⟩:D 31 1).1) (.cond (x 52) (w ([o 4 (.mv (.c (.bl false)))]) (.ret)) (.skip))) (.seq (.seq (.region (⟨_,by cbv⟩:D 31 3).1) (.block 0 (.loop (lk (w ([o 57 (.bin .lss .no (x 56) (x 55))]) (.seq (.cond (x 57) (.skip) (.exit 0)) (.seq (.block 1 (w ([m 58 56,m 5 58]) (.seq (.region (⟨_,by cbv⟩:D 31 6).1) (.cond (x 69) (w ([o 4 (.mv (.c (.bl false)))]) (.ret)) (.skip))))) (.region [o 70 (.bin .add .no (x 56) (i 1)),m 56 70])))))))) (lk (.seq (.seq (.region (⟨_,by cbv⟩:D 31 9).1) (.block 2 (.loop (lk (w ([o 75 (.bin .lss .no (x 74) (x 73))]) (.seq (.cond (x 75) (.skip) (.exit 2)) (.seq (.block 3 (w ([m 76 74,m 6 76]) (.seq (.region (⟨_,by cbv⟩:D 31 12).1) (.cond (x 87) (w ([o 4 (.mv (.c (.bl false)))]) (.ret)) (.skip))))) (.region [o 88 (.bin .add .no (x 74) (i 1)),m 74 88])))))))) (lk (.seq (.seq (.region (⟨_,by cbv⟩:D 31 15).1) (.block 4 (.loop (lk (w ([o 93 (.bin .lss .no (x 92) (x 91))]) (.seq (.cond (x 93) (.skip) (.exit 4)) (.seq (.block 5 (w ([m 94 92,m 7 94]) (.seq (.region (⟨_,by cbv⟩:D 31 18).1) (.cond (x 105) (w ([o 4 (.mv (.c (.bl false)))]) (.ret)) (.skip))))) (.region [o 106 (.bin .add .no (x 92) (i 1)),m 92 106])))))))) (lk (.seq (.seq (.region (⟨_,by cbv⟩:D 31 21).1) (.block 6 (.loop (lk (w ([o 111 (.bin .lss .no (x 110) (x 109))]) (.seq (.cond (x 111) (.skip) (.exit 6)) (.seq (.block 7 (w ([m 112 110,m 8 112]) (.seq (.region (⟨_,by cbv⟩:D 31 24).1) (.cond (x 123) (w ([o 4 (.mv (.c (.bl false)))]) (.ret)) (.skip))))) (.region [o 124 (.bin .add .no (x 110) (i 1)),m 110 124])))))))) (lk (.seq (.seq (.region (⟨_,by cbv⟩:D 31 27).1) (.block 8 (.loop (lk (w ([o 129 (.bin .lss .no (x 128) (x 127))]) (.seq (.cond (x 129) (.skip) (.exit 8)) (.seq (.block 9 (w ([m 130 128,m 9 130]) (.seq (.region (⟨_,by cbv⟩:D 31 30).1) (.cond (x 141) (w ([o 4 (.mv (.c (.bl false)))]) (.ret)) (.skip))))) (.region [o 142 (.bin .add .no (x 128) (i 1)),m 128 142])))))))) (lk (w ([o 4 (.mv (.c (.bl true)))]) (.ret)))))))))))))⟩
def T.di:= @t0 31 F.di (by kernel_rfl)
def F.kH:cM:=
 ⟨48,[.load true 148 (x 2)],.seq (.region (⟨_,by cbv⟩:D 25 0).1) (.seq (.region (⟨_,by cbv⟩:D 25 1).1) (.seq (.seq (.region (⟨_,by cbv⟩:D 25 2).1) (.block 0 (.loop (lk (w ([o 12 (.bin .lss .no (x 11) (x 10))]) (.seq (.cond (x 12) (.skip) (.exit 0)) (.seq (.block 1 (w ([m 13 11,m 3 13]) (.region (⟨_,by cbv⟩:D 25 5).1))) (.region [o 26 (.bin .add .no (x 11) (i 1)),m 11 26])))))))) (lk (.seq (.region (⟨_,by cbv⟩:D 25 7).1) (.seq (.region (⟨_,by cbv⟩:D 25 8).1) (w ([o 47 (.load true 148 (x 1)),s 148 2 47]) (.ret)))))))⟩
def T.kH:= @t0 25 F.kH (by kernel_rfl)
def R.ej:C 44:=⟨_,by cbv⟩
def F.oJ:cM:=
 ⟨84,[.load true 35 (x 2),.mv (x 3)],.seq (.region (⟨_,by cbv⟩:D 62 0).1) (.seq (.block 0 (.seq (.region (⟨_,by cbv⟩:D 62 1).1) (.cond (x 6) (.seq (.region (⟨_,by cbv⟩:D 62 2).1) (.ret)) (.seq (.region (⟨_,by cbv⟩:D 62 3).1) (.cond (x 11) (.seq (.region (⟨_,by cbv⟩:D 62 4).1) (.ret)) (.skip)))))) (.seq (.region (⟨_,by cbv⟩:D 62 5).1) (.seq (.seq (.region (⟨_,by cbv⟩:D 62 6).1) (.block 1 (w ([o 22 (.bin .eql .no (x 19) (.c (.int .u8 4))),m 21 22]) (.cond (x 21) (.seq (.seq (.region (⟨_,by cbv⟩:D 62 8).1) (.cond (x 25) (.seq (.region (⟨_,by cbv⟩:D 62 9).1) (.ret)) (.skip))) (.seq (.region (⟨_,by cbv⟩:D 62 10).1) (.seq (.region (⟨_,by cbv⟩:D 62 11).1) (.seq (.region (⟨_,by cbv⟩:D 62 12).1) (.cond (x 51) (.seq (.region (⟨_,by cbv⟩:D 62 13).1) (.ret)) (.skip)))))) (w ([o 54 (.bin .eql .no (x 19) (.c (.int .u8 6))),m 53 54]) (.cond (x 53) (.seq (.seq (.region (⟨_,by cbv⟩:D 62 15).1) (.cond (x 57) (.seq (.region (⟨_,by cbv⟩:D 62 16).1) (.ret)) (.skip))) (.region (⟨_,by cbv⟩:D 62 17).1)) (.seq (.region (⟨_,by cbv⟩:D 62 18).1) (.ret)))))))) (.seq (.block 2 (.seq (.region (⟨_,by cbv⟩:D 62 19).1) (.cond (x 71) (.seq (.region (⟨_,by cbv⟩:D 62 20).1) (.ret)) (.seq (.region (⟨_,by cbv⟩:D 62 21).1) (.cond (x 78) (.seq (.region (⟨_,by cbv⟩:D 62 22).1) (.ret)) (.skip)))))) (.seq (.region (⟨_,by cbv⟩:D 62 23).1) (.ret))))))⟩
def T.oJ:= @t0 62 F.oJ (by kernel_rfl)
def R.tK:C 325:=⟨_,by cbv⟩
def R.sq:C 352:=⟨_,by cbv⟩
def R.pn:C 380:=⟨_,by cbv⟩
def R.adC:RF Pg [7] [] 245:=⟨_,by cbv⟩
def R.jf:C 163:=⟨_,by cbv⟩
def R.uc:C 160:=⟨_,by cbv⟩
def R.bu:C 253:=⟨_,by cbv⟩
def R.nst:RF Pg [4,13] [] 221:=⟨_,by cbv⟩
def R.shh:C 308:=⟨_,by cbv⟩
def R.mm1:RF Pg [6] [] 126:=⟨_,by cbv⟩
def F.mse:cM:=⟨41,[.mv (x 8),.load true 16 (x 9)],.seq (.region (⟨_,by cbv⟩:RL [37,38] [] 236 0).1) (.seq (.region (⟨_,by cbv⟩:RL [37,38] [] 236 1).1) (.seq (.regionD (⟨_,by cbv⟩:RL [37,38] [] 236 2).1 [0,1,2,3,4,5,6,7,8] [0,3,5,6,7]) (.seq (.region (⟨_,by cbv⟩:RL [37,38] [] 236 3).1) (.seq (w ([m 27 1]) (.cond (x 27) (.regionD (⟨_,by cbv⟩:RL [37,38] [] 236 5).1 [0,1,2,3,4,5,6,7,8,9,10,11] [1,9]) (.skip))) (.seq (.region (⟨_,by cbv⟩:RL [37,38] [] 236 6).1) (.ret))))))⟩
def T.mse:=t1 [37,38] [] 236 F.mse (by kernel_rfl)
end Go.Ab
