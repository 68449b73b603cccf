/- Functions as they are read. No condition. -/
import Derived.Test.YtddacpkeacbjfaaGreatDoorSI
set_option maxRecDepth 100000
set_option maxHeartbeats 0
set_option linter.defProp false
noncomputable section
namespace Go.Ab
open Go.Ab.Q
def R.ke:RF Pg [6] [] 26:=⟨_,by cbv⟩
def R.fo:C 104:=⟨_,by cbv⟩
def R.ja:C 164:=⟨_,by cbv⟩
def R.uQ:C 189:=⟨_,by cbv⟩
def R.rf:C 256:=⟨_,by cbv⟩
def R.kL:C 310:=⟨_,by cbv⟩
def R.jQ:C 15:=⟨_,by cbv⟩
def R.ir:C 51:=⟨_,by cbv⟩
def R.mw:RF Pg [] [10,11,12,13,14,15,18,19,20,27,28,29,30,31] 63:=⟨_,by cbv⟩
def R.p7:C 99:=⟨_,by cbv⟩
def R.fw:C 111:=⟨_,by cbv⟩
def R.oM:C 172:=⟨_,by cbv⟩
def R.jW:C 184:=⟨_,by cbv⟩
def F.iw:dP:=
 ⟨34,[.mv (x 2)],w ([u 1 (.box (x 0)),o 2 (.mv (.c (.bl false)))]) (.seq (.seq (.region (⟨_,by cbv⟩:RL [] [27,26,23,21] 202 1).1) (.block 0 (.loop (lk (w ([o 9 (.bin .lss .no (x 8) (x 7))]) (.seq (.cond (x 9) (.skip) (.exit 0)) (.seq (.block 1 (.seq (.region (⟨_,by cbv⟩:RL [] [27,26,23,21] 202 3).1) (.seq (.region (⟨_,by cbv⟩:RL [] [27,26,23,21] 202 4).1) (.cond (x 28) (w ([o 2 (.mv (.c (.bl false)))]) (.ret)) (.skip))))) (.region [o 29 (.bin .add .no (x 8) (i 1)),m 8 29])))))))) (lk (.seq (.region (⟨_,by cbv⟩:RL [] [27,26,23,21] 202 7).1) (.ret))))⟩
def T.iw:=t1 [] [27,26,23,21] 202 F.iw (by kernel_rfl)
def F.ef:dP:=
 ⟨82,[.load true 76 (x 6)],.seq (.region (⟨_,by cbv⟩:RL [75,15,23,25,28,60] [] 34 0).1) (.seq (.regionD (⟨_,by cbv⟩:RL [75,15,23,25,28,60] [] 34 1).1 [0,1,2,3,4,5,6,7,8,9] [0,1,2,3,5]) (.seq (.regionD (⟨_,by cbv⟩:RL [75,15,23,25,28,60] [] 34 2).1 [0,1,2,3,5,7,8,10,11,12,4,6,9,13,14,15] [10,11,12,13,4,6,9,14]) (.seq (.region (⟨_,by cbv⟩:RL [75,15,23,25,28,60] [] 34 3).1) (.seq (.region (⟨_,by cbv⟩:RL [75,15,23,25,28,60] [] 34 4).1) (.seq (.seq (.region (⟨_,by cbv⟩:RL [75,15,23,25,28,60] [] 34 5).1) (.block 0 (w ([o 48 (.bin .eql .no (x 46) (i 1)),m 47 48]) (.cond (x 47) (.region (⟨_,by cbv⟩:RL [75,15,23,25,28,60] [] 34 7).1) (w ([o 54 (.bin .eql .no (x 46) (i 2)),m 53 54]) (.cond (x 53) (.regionD (⟨_,by cbv⟩:RL [75,15,23,25,28,60] [] 34 9).1 [0,1,2,3,4,5,6,7,8,9,10] [0,1,2,3,5]) (.skip))))))) (.seq (.seq (.region (⟨_,by cbv⟩:RL [75,15,23,25,28,60] [] 34 10).1) (.block 1 (.loop (lk (.seq (w ([m 67 9,o 68 (.bin .gtr .no (x 67) (i 0))]) (.cond (x 68) (.skip) (.exit 1))) (.seq (.block 2 (.regionD (⟨_,by cbv⟩:RL [75,15,23,25,28,60] [] 34 12).1 [0,1,2,3,4,5,6,7,8,9,10] [0,1,3])) (.region (⟨_,by cbv⟩:RL [75,15,23,25,28,60] [] 34 13).1))))))) (lk (w ([o 81 (.load true 76 (x 8)),s 76 6 81]) (.ret)))))))))⟩
def T.ef:=t1 [75,15,23,25,28,60] [] 34 F.ef (by kernel_rfl)
def F.dz:dP:=
 ⟨143,[.mv (x 4)],.seq (.region (⟨_,by cbv⟩:D 23 0).1) (.seq (.seq (.region (⟨_,by cbv⟩:D 23 1).1) (.cond (x 52) (w ([o 4 (.mv (.c (.bl false)))]) (.ret)) (.skip))) (.seq (.seq (.region (⟨_,by cbv⟩:D 23 3).1) (.block 0 (.loop (lk (w ([o 57 (.bin .lss .no (x 56) (x 55))]) (.seq (.cond (x 57) (.skip) (.exit 0)) (.seq (.block 1 (w ([m 58 56,m 5 58]) (.seq (.region (⟨_,by cbv⟩:D 23 6).1) (.cond (x 69) (w ([o 4 (.mv (.c (.bl false)))]) (.ret)) (.skip))))) (.region [o 70 (.bin .add .no (x 56) (i 1)),m 56 70])))))))) (lk (.seq (.seq (.region (⟨_,by cbv⟩:D 23 9).1) (.block 2 (.loop (lk (w ([o 75 (.bin .lss .no (x 74) (x 73))]) (.seq (.cond (x 75) (.skip) (.exit 2)) (.seq (.block 3 (w ([m 76 74,m 6 76]) (.seq (.region (⟨_,by cbv⟩:D 23 12).1) (.cond (x 87) (w ([o 4 (.mv (.c (.bl false)))]) (.ret)) (.skip))))) (.region [o 88 (.bin .add .no (x 74) (i 1)),m 74 88])))))))) (lk (.seq (.seq (.region (⟨_,by cbv⟩:D 23 15).1) (.block 4 (.loop (lk (w ([o 93 (.bin .lss .no (x 92) (x 91))]) (.seq (.cond (x 93) (.skip) (.exit 4)) (.seq (.block 5 (w ([m 94 92,m 7 94]) (.seq (.region (⟨_,by cbv⟩:D 23 18).1) (.cond (x 105) (w ([o 4 (.mv (.c (.bl false)))]) (.ret)) (.skip))))) (.region [o 106 (.bin .add .no (x 92) (i 1)),m 92 106])))))))) (lk (.seq (.seq (.region (⟨_,by cbv⟩:D 23 21).1) (.block 6 (.loop (lk (w ([o 111 (.bin .lss .no (x 110) (x 109))]) (.seq (.cond (x 111) (.skip) (.exit 6)) (.seq (.block 7 (w ([m 112 110,m 8 112]) (.seq (.region (⟨_,by cbv⟩:D 23 24).1) (.cond (x 123) (w ([o 4 (.mv (.c (.bl false)))]) (.ret)) (.skip))))) (.region [o 124 (.bin .add .no (x 110) (i 1)),m 110 124])))))))) (lk (.seq (.seq (.region (⟨_,by cbv⟩:D 23 27).1) (.block 8 (.loop (lk (w ([o 129 (.bin .lss .no (x 128) (x 127))]) (.seq (.cond (x 129) (.skip) (.exit 8)) (.seq (.block 9 (w ([m 130 128,m 9 130]) (.seq (.region (⟨_,by cbv⟩:D 23 30).1) (.cond (x 141) (w ([o 4 (.mv (.c (.bl false)))]) (.ret)) (.skip))))) (.region [o 142 (.bin .add .no (x 128) (i 1)),m 128 142])))))))) (lk (w ([o 4 (.mv (.c (.bl true)))]) (.ret)))))))))))))⟩
def T.dz:= @t0 23 F.dz (by kernel_rfl)
def R.sg:C 48:=⟨_,by cbv⟩
def R.sn:C 54:=⟨_,by cbv⟩
def F.bO:dP:=
 ⟨67,[.mv (x 6),.mv (x 7)],.seq (.region (⟨_,by cbv⟩:RL [61] [50,48,47] 31 0).1) (.seq (.seq (.region (⟨_,by cbv⟩:RL [61] [50,48,47] 31 1).1) (.cond (x 13) (w ([o 6 (.mv (.c (.sl 50 [] true))),o 7 (.mv (i 1))]) (.ret)) (.skip))) (.seq (.region (⟨_,by cbv⟩:RL [61] [50,48,47] 31 3).1) (.seq (.seq (.region (⟨_,by cbv⟩:RL [61] [50,48,47] 31 4).1) (.block 0 (.loop (lk (w ([o 19 (.bin .lss .no (x 18) (x 17))]) (.seq (.cond (x 19) (.skip) (.exit 0)) (.seq (.block 1 (w ([m 20 18,m 9 20]) (.seq (.region (⟨_,by cbv⟩:RL [61] [50,48,47] 31 7).1) (.cond (x 27) (.seq (.region (⟨_,by cbv⟩:RL [61] [50,48,47] 31 8).1) (.seq (.region (⟨_,by cbv⟩:RL [61] [50,48,47] 31 9).1) (.ret))) (.skip))))) (.region [o 34 (.bin .add .no (x 18) (i 1)),m 18 34])))))))) (lk (.seq (.seq (.region (⟨_,by cbv⟩:RL [61] [50,48,47] 31 11).1) (.cond (x 37) (w ([o 6 (.mv (.c (.sl 50 [] true))),o 7 (.mv (i 12))]) (.ret)) (.skip))) (w ([o 10 (.mv (i 0))]) (.seq (.block 2 (.loop (lk (.seq (.seq (.region (⟨_,by cbv⟩:RL [61] [50,48,47] 31 14).1) (.cond (x 51) (.skip) (.exit 2))) (.block 3 (.region (⟨_,by cbv⟩:RL [61] [50,48,47] 31 15).1)))))) (lk (.seq (.regionD (⟨_,by cbv⟩:RL [61] [50,48,47] 31 16).1 [0,1,2,3,4,5,6,8,9,10,7,11,12,13,14] [3,10,7,11]) (.ret))))))))))⟩
def T.bO:=t1 [61] [50,48,47] 31 F.bO (by kernel_rfl)
def F.iz:dP:=
 ⟨51,[.mv (x 2)],w ([u 1 (.box (x 0)),o 2 (.mv (.c (.str [])))]) (.seq (.seq (.region (⟨_,by cbv⟩:D 249 1).1) (.cond (x 8) (w ([o 2 (.mv (.c (.str [])))]) (.ret)) (.skip))) (w ([o 3 (.mv (.c (.sl 1 [] true)))]) (.seq (w ([f 9 0 0 1,l 10 9]) (.cond (x 10) (.seq (w ([o 11 (.mv (i 0))]) (.block 0 (.loop (lk (w ([o 12 (.bin .lss .no (x 11) (i 8))]) (.seq (.cond (x 12) (.skip) (.exit 0)) (.seq (.block 1 (w ([m 13 11,m 4 13]) (.region (⟨_,by cbv⟩:D 249 8).1))) (.region [o 33 (.bin .add .no (x 11) (i 1)),m 11 33])))))))) (lk (.seq (.region (⟨_,by cbv⟩:D 249 10).1) (.ret)))) (.skip))) (lk (.seq (w ([o 36 (.mv (i 0))]) (.block 2 (.loop (lk (w ([o 37 (.bin .lss .no (x 36) (i 4))]) (.seq (.cond (x 37) (.skip) (.exit 2)) (.seq (.block 3 (w ([m 38 36,m 5 38]) (.region (⟨_,by cbv⟩:D 249 14).1))) (.region [o 48 (.bin .add .no (x 36) (i 1)),m 36 48])))))))) (lk (.seq (.region (⟨_,by cbv⟩:D 249 16).1) (.ret))))))))⟩
def T.iz:= @t0 249 F.iz (by kernel_rfl)
def R.uU:RF Pg [23] [] 46:=⟨_,by cbv⟩
def R.mI:C 42:=⟨_,by cbv⟩
def R.mq:C 278:=⟨_,by cbv⟩
def F.dF:dP:=⟨92,[.load true 35 (x 2),.mv (x 3)],.seq (.region (⟨_,by cbv⟩:RL [] [36,78] 72 0).1) (.seq (.seq (.region (⟨_,by cbv⟩:RL [] [36,78] 72 1).1) (.cond (x 9) (.seq (.region (⟨_,by cbv⟩:RL [] [36,78] 72 2).1) (.ret)) (.skip))) (.seq (.seq (.region (⟨_,by cbv⟩:RL [] [36,78] 72 3).1) (.cond (x 13) (.seq (.region (⟨_,by cbv⟩:RL [] [36,78] 72 4).1) (.ret)) (.skip))) (.seq (.region (⟨_,by cbv⟩:RL [] [36,78] 72 5).1) (.seq (.seq (.region (⟨_,by cbv⟩:RL [] [36,78] 72 6).1) (.cond (x 24) (.seq (.region (⟨_,by cbv⟩:RL [] [36,78] 72 7).1) (.ret)) (.skip))) (.seq (.seq (.region (⟨_,by cbv⟩:RL [] [36,78] 72 8).1) (.cond (x 37) (.seq (.region (⟨_,by cbv⟩:RL [] [36,78] 72 9).1) (.ret)) (.skip))) (.seq (.regionD (⟨_,by cbv⟩:RL [] [36,78] 72 10).1 [0,1,2,3,4,5,6,7,8,9,10,11] [1,2,4,5,7,8,10]) (.seq (w ([m 49 4,o 50 (.bin .eql .no (x 49) (.c (.int .u8 6)))]) (.cond (x 50) (.region (⟨_,by cbv⟩:RL [] [36,78] 72 12).1) (.skip))) (.seq (.seq (.region (⟨_,by cbv⟩:RL [] [36,78] 72 13).1) (.seq (.region (⟨_,by cbv⟩:RL [] [36,78] 72 14).1) (.cond (x 79) (.seq (.region (⟨_,by cbv⟩:RL [] [36,78] 72 15).1) (.ret)) (.skip)))) (.seq (.seq (.region (⟨_,by cbv⟩:RL [] [36,78] 72 16).1) (.cond (x 85) (.seq (.region (⟨_,by cbv⟩:RL [] [36,78] 72 17).1) (.ret)) (.skip))) (.seq (.seq (.region (⟨_,by cbv⟩:RL [] [36,78] 72 18).1) (.cond (x 89) (.seq (.region (⟨_,by cbv⟩:RL [] [36,78] 72 19).1) (.ret)) (.skip))) (.seq (.region (⟨_,by cbv⟩:RL [] [36,78] 72 20).1) (.ret))))))))))))⟩
def T.dF:=t1 [] [36,78] 72 F.dF (by kernel_rfl)
end Go.Ab
