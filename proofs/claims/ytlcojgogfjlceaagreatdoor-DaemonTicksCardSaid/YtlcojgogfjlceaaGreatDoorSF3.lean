/- Functions of the program as the abstract reading has them. Written by program. No condition. -/
import Derived.Test.YtlcojgogfjlceaaGreatDoorSI
set_option maxRecDepth 100000
set_option maxHeartbeats 0
set_option linter.defProp false
noncomputable section
namespace Go.Ab
open Go.Ab.Q
def R.dk:C 20:=⟨_,by cbv⟩
def R.nD:RF Pg [] [10,11,12,13,14,15,18,19,20,27,28,29,30,31] 45:=⟨_,by cbv⟩
def R.cT:RF Pg [] [32,31,27] 99:=⟨_,by cbv⟩
def R.lx:C 159:=⟨_,by cbv⟩
def R.kz:C 226:=⟨_,by cbv⟩
def R.pq:C 287:=⟨_,by cbv⟩
def R.iz:C 326:=⟨_,by cbv⟩
def F.il:cM:=
 ⟨92,[.load true 3 (x 6)],w ([u 3 (.box (x 0)),u 6 (.alloc (.ar 1 3 (zr 3 z8)))]) (.seq (.region (⟨_,by cbv⟩:D 381 1).1) (.seq (.regionD (⟨_,by cbv⟩:D 381 2).1 [0,1,2,3,4,5,6,7,8,9,10] [0,1,3,4,5,7,8,9]) (.seq (.regionD (⟨_,by cbv⟩:D 381 3).1 [0,1,2,3,4,5,6,7,8,9,10] [0,1,3,4,5,7,8,9]) (.seq (.region (⟨_,by cbv⟩:D 381 4).1) (.seq (.region (⟨_,by cbv⟩:D 381 5).1) (.seq (.region (⟨_,by cbv⟩:D 381 6).1) (.seq (.region (⟨_,by cbv⟩:D 381 7).1) (.seq (.region (⟨_,by cbv⟩:D 381 8).1) (.seq (.region (⟨_,by cbv⟩:D 381 9).1) (.seq (.region (⟨_,by cbv⟩:D 381 10).1) (.ret)))))))))))⟩
def T.il:= @t0 381 F.il (by kernel_rfl)
def R.jD:C 52:=⟨_,by cbv⟩
def R.eN:C 58:=⟨_,by cbv⟩
def R.oY:C 82:=⟨_,by cbv⟩
def R.vj:C 106:=⟨_,by cbv⟩
def F.mG:cM:=
 ⟨107,[.load true 32 (x 4)],.seq (.region (⟨_,by cbv⟩:D 172 0).1) (.seq (.region (⟨_,by cbv⟩:D 172 1).1) (.seq (.region (⟨_,by cbv⟩:D 172 2).1) (.seq (.regionD (⟨_,by cbv⟩:D 172 3).1 [0,1,2,3,4,5,6,7,8,9,10,11] [2,4,5,6,7,8,9]) (w ([o 11 (.mv (.c (.int .u8 0)))]) (.seq (w ([o 12 (.mv (i 254))]) (.block 0 (.loop (lk (.seq (w ([m 29 12,o 30 (.bin .geq .no (x 29) (i 0))]) (.cond (x 30) (.skip) (.exit 0))) (.seq (.block 1 (.seq (.region (⟨_,by cbv⟩:D 172 7).1) (.seq (.seq (.region (⟨_,by cbv⟩:D 172 8).1) (.cond (x 43) (.regionD (⟨_,by cbv⟩:D 172 9).1 [0,1,2,3,4,5,6,7] [2,4,5]) (.skip))) (w ([m 48 13,m 11 48]) (.seq (.regionD (⟨_,by cbv⟩:D 172 11).1 [0,1,2,3,4,5,6,7,8,9] [0,1,2,3,4,5,6,7]) (.seq (.regionD (⟨_,by cbv⟩:D 172 12).1 [0,1,2,3,4,5,6,7,8,9] [0,1,2,3,4,5,6,7]) (.seq (.region (⟨_,by cbv⟩:D 172 13).1) (.seq (.regionD (⟨_,by cbv⟩:D 172 14).1 [0,1,2,3,4,5,6,7,8,9,10,11,12,13] [0,1,2,3,4,5,6,7,8,9,10,11]) (.seq (.region (⟨_,by cbv⟩:D 172 15).1) (.seq (.region (⟨_,by cbv⟩:D 172 16).1) (.region (⟨_,by cbv⟩:D 172 17).1))))))))))) (.region (⟨_,by cbv⟩:D 172 18).1))))))) (lk (.seq (w ([m 98 11,o 99 (.bin .eql .no (x 98) (.c (.int .u8 1)))]) (.cond (x 99) (.regionD (⟨_,by cbv⟩:D 172 20).1 [0,1,2,3] [1,2]) (.skip))) (.seq (.region (⟨_,by cbv⟩:D 172 21).1) (.ret)))))))))⟩
def T.mG:= @t0 172 F.mG (by kernel_rfl)
def F.ij:cM:=
 ⟨64,[.mv (x 0)],w ([o 0 (.mv (.c (.bl false)))]) (.seq (.region (⟨_,by cbv⟩:RL [] [62,61,60,59,49,48,47,46] 10 1).1) (.seq (.region (⟨_,by cbv⟩:RL [] [62,61,60,59,49,48,47,46] 10 2).1) (.seq (.region (⟨_,by cbv⟩:RL [] [62,61,60,59,49,48,47,46] 10 3).1) (.seq (.region (⟨_,by cbv⟩:RL [] [62,61,60,59,49,48,47,46] 10 4).1) (.ret)))))⟩
def T.ij:=t1 [] [62,61,60,59,49,48,47,46] 10 F.ij (by kernel_rfl)
def R.xw:C 65:=⟨_,by cbv⟩
def R.og:C 95:=⟨_,by cbv⟩
def F.fk:cM:=
 ⟨28,[.mv (x 4)],w ([o 4 (.mv (.c (.bl false)))]) (.seq (.region (⟨_,by cbv⟩:D 143 1).1) (.ret))⟩
def T.fk:= @t0 143 F.fk (by kernel_rfl)
def F.gF:cM:=
 ⟨25,[],.region (⟨_,by cbv⟩:D 179 0).1⟩
def T.gF:= @t0 179 F.gF (by kernel_rfl)
def R.Am:C 192:=⟨_,by cbv⟩
def R.p9:C 210:=⟨_,by cbv⟩
def R.xq:C 289:=⟨_,by cbv⟩
def R.xA:C 322:=⟨_,by cbv⟩
def R.jV:RF Pg [] [9,10,11] 340:=⟨_,by cbv⟩
def R.qN:C 391:=⟨_,by cbv⟩
def F.dX:cM:=
 ⟨82,[.load true 76 (x 6)],.seq (.region (⟨_,by cbv⟩:RL [75,15,23,25,28,60] [] 23 0).1) (.seq (.regionD (⟨_,by cbv⟩:RL [75,15,23,25,28,60] [] 23 1).1 [0,1,2,3,4,5,6,7,8,9] [0,1,2,3,5]) (.seq (.regionD (⟨_,by cbv⟩:RL [75,15,23,25,28,60] [] 23 2).1 [0,1,2,3,5,7,8,10,11,12,4,6,9,13,14,15] [10,11,12,13,4,6,9,14]) (.seq (.region (⟨_,by cbv⟩:RL [75,15,23,25,28,60] [] 23 3).1) (.seq (.region (⟨_,by cbv⟩:RL [75,15,23,25,28,60] [] 23 4).1) (.seq (.seq (.region (⟨_,by cbv⟩:RL [75,15,23,25,28,60] [] 23 5).1) (.block 0 (w ([o 48 (.bin .eql .no (x 46) (i 1)),m 47 48]) (.cond (x 47) (.region (⟨_,by cbv⟩:RL [75,15,23,25,28,60] [] 23 7).1) (w ([o 54 (.bin .eql .no (x 46) (i 2)),m 53 54]) (.cond (x 53) (.regionD (⟨_,by cbv⟩:RL [75,15,23,25,28,60] [] 23 9).1 [0,1,2,3,4,5,6,7,8,9,10] [0,1,2,3,5]) (.skip))))))) (.seq (.seq (.region (⟨_,by cbv⟩:RL [75,15,23,25,28,60] [] 23 10).1) (.block 1 (.loop (lk (.seq (w ([m 67 9,o 68 (.bin .gtr .no (x 67) (i 0))]) (.cond (x 68) (.skip) (.exit 1))) (.seq (.block 2 (.regionD (⟨_,by cbv⟩:RL [75,15,23,25,28,60] [] 23 12).1 [0,1,2,3,4,5,6,7,8,9,10] [0,1,3])) (.region (⟨_,by cbv⟩:RL [75,15,23,25,28,60] [] 23 13).1))))))) (lk (w ([o 81 (.load true 76 (x 8)),s 76 6 81]) (.ret)))))))))⟩
def T.dX:=t1 [75,15,23,25,28,60] [] 23 F.dX (by kernel_rfl)
def R.dK:C 174:=⟨_,by cbv⟩
def F.eZ:cM:=
 ⟨52,[.mv (x 6)],w ([u 4 (.box (x 1)),o 6 (.mv (.c .np))]) (.seq (w ([m 8 0,o 9 (.bin .eql .ptr (x 8) (.c .np))]) (.cond (x 9) (.region (⟨_,by cbv⟩:D 193 2).1) (.skip))) (.seq (.seq (.region (⟨_,by cbv⟩:D 193 3).1) (.cond (x 16) (.seq (.seq (.region (⟨_,by cbv⟩:D 193 4).1) (.cond (x 21) (.regionD (⟨_,by cbv⟩:D 193 5).1 [0,1,2,3,4,5,6,7,8,9] [2,3,6]) (.skip))) (w ([m 30 0,m 6 30]) (.ret))) (.skip))) (.seq (.region (⟨_,by cbv⟩:D 193 7).1) (.seq (.region (⟨_,by cbv⟩:D 193 8).1) (w ([m 51 0,m 6 51]) (.ret))))))⟩
def T.eZ:= @t0 193 F.eZ (by kernel_rfl)
def F.eQ:cM:=
 ⟨54,[.load true 10 (x 2)],.seq (.region (⟨_,by cbv⟩:RL [30,37,44] [] 12 0).1) (.seq (.region (⟨_,by cbv⟩:RL [30,37,44] [] 12 1).1) (.seq (.regionD (⟨_,by cbv⟩:RL [30,37,44] [] 12 2).1 [0,1,2,3,4,5,6,7] [0,1,3]) (.seq (.regionD (⟨_,by cbv⟩:RL [30,37,44] [] 12 3).1 [0,1,2,3,4,5,6,7] [0,1,3]) (.seq (.regionD (⟨_,by cbv⟩:RL [30,37,44] [] 12 4).1 [0,1,2,3,4,5,6,7] [0,1,3]) (.seq (.seq (.region (⟨_,by cbv⟩:RL [30,37,44] [] 12 5).1) (.cond (x 50) (.region (⟨_,by cbv⟩:RL [30,37,44] [] 12 6).1) (.skip))) (w ([o 53 (.load true 10 (x 3)),s 10 2 53]) (.ret)))))))⟩
def T.eQ:=t1 [30,37,44] [] 12 F.eQ (by kernel_rfl)
def R.od:C 43:=⟨_,by cbv⟩
def R.sV:C 55:=⟨_,by cbv⟩
def R.jN:C 67:=⟨_,by cbv⟩
def R.sj:C 103:=⟨_,by cbv⟩
def R.kD:C 157:=⟨_,by cbv⟩
def R.xm:C 194:=⟨_,by cbv⟩
def R.oG:C 248:=⟨_,by cbv⟩
def F.ik:cM:=
 ⟨97,[.load true 32 (x 2)],w ([u 1 (.box (x 0)),u 2 (.alloc Fa)]) (.seq (.region (⟨_,by cbv⟩:D 266 1).1) (.seq (.region (⟨_,by cbv⟩:D 266 2).1) (.seq (w ([o 4 (.mv (i 1))]) (.block 0 (.loop (lk (.seq (w ([m 16 4,o 17 (.bin .lss .no (x 16) (i 5))]) (.cond (x 17) (.skip) (.exit 0))) (.seq (.block 1 (.region (⟨_,by cbv⟩:D 266 5).1)) (.region (⟨_,by cbv⟩:D 266 6).1))))))) (lk (.seq (.region (⟨_,by cbv⟩:D 266 7).1) (.seq (w ([o 5 (.mv (i 0))]) (.block 2 (.loop (lk (.seq (.seq (.region (⟨_,by cbv⟩:D 266 9).1) (.cond (x 34) (.skip) (.exit 2))) (.seq (.block 3 (.seq (.region (⟨_,by cbv⟩:D 266 10).1) (.region (⟨_,by cbv⟩:D 266 11).1))) (.region (⟨_,by cbv⟩:D 266 12).1))))))) (lk (.seq (.region (⟨_,by cbv⟩:D 266 13).1) (.seq (.region (⟨_,by cbv⟩:D 266 14).1) (w ([u 7 (.alloc Fa)]) (.seq (w ([o 84 (.load true 4 (x 6)),o 85 (.mv (i 0))]) (.block 4 (.loop (lk (w ([o 86 (.bin .lss .no (x 85) (i 4))]) (.seq (.cond (x 86) (.skip) (.exit 4)) (.seq (.block 5 (.seq (.region (⟨_,by cbv⟩:D 266 18).1) (.region (⟨_,by cbv⟩:D 266 19).1))) (.region [o 95 (.bin .add .no (x 85) (i 1)),m 85 95])))))))) (lk (w ([o 96 (.load true 32 (x 7)),s 32 2 96]) (.ret))))))))))))))⟩
def T.ik:= @t0 266 F.ik (by kernel_rfl)
def F.kI:cM:=
 ⟨122,[.load true 148 (x 8),.mv (x 9)],.seq (.region (⟨_,by cbv⟩:D 32 0).1) (.seq (.seq (.region (⟨_,by cbv⟩:D 32 1).1) (.cond (x 27) (.seq (.region (⟨_,by cbv⟩:D 32 2).1) (.ret)) (.skip))) (.seq (.seq (.region (⟨_,by cbv⟩:D 32 3).1) (w ([m 31 10,o 32 (.bin .neq .no (x 31) (i 0))]) (.cond (x 32) (.seq (.region (⟨_,by cbv⟩:D 32 5).1) (.ret)) (.skip)))) (.seq (.region (⟨_,by cbv⟩:D 32 6).1) (.seq (.region (⟨_,by cbv⟩:D 32 7).1) (.seq (.seq (.region (⟨_,by cbv⟩:D 32 8).1) (.block 0 (.loop (lk (w ([o 59 (.bin .lss .no (x 58) (x 57))]) (.seq (.cond (x 59) (.skip) (.exit 0)) (.seq (.block 1 (.seq (.region (⟨_,by cbv⟩:D 32 10).1) (.seq (.region (⟨_,by cbv⟩:D 32 11).1) (.seq (.regionD (⟨_,by cbv⟩:D 32 12).1 [0,1,2,3,4,5,6,7,8,9,10,11,12] []) (.seq (.seq (.region (⟨_,by cbv⟩:D 32 13).1) (.block 2 (.loop (lk (w ([o 89 (.bin .lss .no (x 88) (x 87))]) (.seq (.cond (x 89) (.skip) (.exit 2)) (.seq (.block 3 (.seq (.region (⟨_,by cbv⟩:D 32 15).1) (.region (⟨_,by cbv⟩:D 32 16).1))) (.region [o 108 (.bin .add .no (x 88) (i 1)),m 88 108])))))))) (lk (.region (⟨_,by cbv⟩:D 32 18).1))))))) (lk (.region [o 111 (.bin .add .no (x 58) (i 1)),m 58 111]))))))))) (lk (.seq (.region (⟨_,by cbv⟩:D 32 20).1) (.seq (.region (⟨_,by cbv⟩:D 32 21).1) (.ret)))))))))⟩
def T.kI:= @t0 32 F.kI (by kernel_rfl)
def R.xp:C 225:=⟨_,by cbv⟩
def R.qL:C 261:=⟨_,by cbv⟩
def R.Ah:C 292:=⟨_,by cbv⟩
def R.iy:C 343:=⟨_,by cbv⟩
def R.dU:C 358:=⟨_,by cbv⟩
def R.iu:RF Pg [26] [] 252:=⟨_,by cbv⟩
def R.sn:C 332:=⟨_,by cbv⟩
def R.dm:C 161:=⟨_,by cbv⟩
def R.a8:C 333:=⟨_,by cbv⟩
def R.csh:C 315:=⟨_,by cbv⟩
def R.sep:C 222:=⟨_,by cbv⟩
def R.msc:C 342:=⟨_,by cbv⟩
def F.Zu:cM:=⟨44,[.mv (x 8),.mv (x 9),.mv (x 10)],.seq (.region (⟨_,by cbv⟩:RL [35,41,42,1007001] [] 136 0).1) (.seq (.seq (.region (⟨_,by cbv⟩:RL [35,41,42,1007001] [] 136 1).1) (.cond (x 16) (.seq (.region (⟨_,by cbv⟩:RL [35,41,42,1007001] [] 136 2).1) (.ret)) (.skip))) (.seq (.region (⟨_,by cbv⟩:RL [35,41,42,1007001] [] 136 3).1) (.seq (w ([m 24 12,o 25 (.un .not (x 24))]) (.cond (x 25) (.region (⟨_,by cbv⟩:RL [35,41,42,1007001] [] 136 5).1) (.skip))) (.seq (.region (⟨_,by cbv⟩:RL [35,41,42,1007001] [] 136 6).1) (.seq (.regionE (⟨_,by cbv⟩:RL [35,41,42,1007001] [] 136 7).1 [0,2,3,4,5,6,9] 7 1 [8,10,11,12] [9,7,8,3,4,9,1,8]) (.ret))))))⟩
def T.Zu:=t1 [35,41,42,1007001] [] 136 F.Zu (by kernel_rfl)
end Go.Ab
