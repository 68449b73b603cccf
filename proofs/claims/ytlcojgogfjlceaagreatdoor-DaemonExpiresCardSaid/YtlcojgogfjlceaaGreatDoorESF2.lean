/- Functions of the program as the abstract reading has them. Written by program. No condition. -/
import Derived.Test.YtlcojgogfjlceaaGreatDoorESI
set_option maxRecDepth 100000
set_option maxHeartbeats 0
set_option linter.defProp false
noncomputable section
namespace Go.Ab
open Go.Ab.Q
def R.kE:C 14:=⟨_,by cbv⟩
def R.bW:C 57:=⟨_,by cbv⟩
def R.iZ:C 93:=⟨_,by cbv⟩
def F.dz:cZ:=
 ⟨37,[.mv (x 4)],w ([o 4 (.mv (.c .np))]) (.seq (.seq (.region (⟨_,by cbv⟩:RL [] [30] 111 1).1) (.cond (x 31) (w ([o 4 (.mv (.c .np))]) (.ret)) (.skip))) (.seq (.region (⟨_,by cbv⟩:RL [] [30] 111 3).1) (.ret)))⟩
def T.dz:=t1 [] [30] 111 F.dz (by kernel_rfl)
def R.gH:C 250:=⟨_,by cbv⟩
def R.zJ:C 293:=⟨_,by cbv⟩
def R.lh:C 64:=⟨_,by cbv⟩
def R.tE:C 100:=⟨_,by cbv⟩
def R.u5:RF Pg [] [28,45,39,72] 166:=⟨_,by cbv⟩
def F.il:cZ:=
 ⟨34,[.mv (x 2)],w ([u 1 (.box (x 0)),o 2 (.mv (.c (.bl false)))]) (.seq (.seq (.region (⟨_,by cbv⟩:RL [] [27,26,23,21] 185 1).1) (.block 0 (.loop (lk (w ([o 9 (.bin .lss .no (x 8) (x 7))]) (.seq (.cond (x 9) (.skip) (.exit 0)) (.seq (.block 1 (.seq (.region (⟨_,by cbv⟩:RL [] [27,26,23,21] 185 3).1) (.seq (.region (⟨_,by cbv⟩:RL [] [27,26,23,21] 185 4).1) (.cond (x 28) (w ([o 2 (.mv (.c (.bl false)))]) (.ret)) (.skip))))) (.region [o 29 (.bin .add .no (x 8) (i 1)),m 8 29])))))))) (lk (.seq (.region (⟨_,by cbv⟩:RL [] [27,26,23,21] 185 7).1) (.ret))))⟩
def T.il:=t1 [] [27,26,23,21] 185 F.il (by kernel_rfl)
def F.e9:cZ:=
 ⟨17,[],.regionD (⟨_,by cbv⟩:D 301 0).1 [0,1,2,3,4,5,6,7,8,9,10,11] []⟩
def T.e9:= @t0 301 F.e9 (by kernel_rfl)
def R.gE:C 339:=⟨_,by cbv⟩
def R.dG:C 368:=⟨_,by cbv⟩
def R.tD:C 390:=⟨_,by cbv⟩
def R.gV:C 16:=⟨_,by cbv⟩
def R.fm:C 41:=⟨_,by cbv⟩
def R.rW:C 59:=⟨_,by cbv⟩
def R.jl:C 83:=⟨_,by cbv⟩
def F.cO:cZ:=
 ⟨40,[.load true 32 (x 6),.mv (x 7)],.seq (.region (⟨_,by cbv⟩:D 107 0).1) (.seq (w ([m 10 0,o 11 (.bin .eql .ptr (x 10) (.c .np))]) (.cond (x 11) (.seq (.region (⟨_,by cbv⟩:D 107 2).1) (.ret)) (.skip))) (.seq (w ([m 13 2,o 14 (.bin .lss .no (x 13) (i 128))]) (.cond (x 14) (.seq (.regionD (⟨_,by cbv⟩:D 107 4).1 [0,1,2,3,4,5,6,7,8,9,10,11,12,13,14,15,16,17] [1,3,4,5,6,7,8,11,15]) (w ([m 30 9]) (.cond (x 30) (.seq (.region (⟨_,by cbv⟩:D 107 6).1) (.ret)) (.skip)))) (.skip))) (.seq (.regionD (⟨_,by cbv⟩:D 107 7).1 [0,1,2,3,4,5,6,7,8,9] [5,6,7,8]) (.ret))))⟩
def T.cO:= @t0 107 F.cO (by kernel_rfl)
def F.dY:cZ:=
 ⟨36,[.mv (x 2)],w ([o 2 (.mv (.c (.bl false)))]) (.seq (.seq (.region (⟨_,by cbv⟩:RL [] [20,21,22,23,24,25,26,27,28,29,30] 283 1).1) (.block 0 (.loop (lk (w ([o 8 (.bin .lss .no (x 7) (x 6))]) (.seq (.cond (x 8) (.skip) (.exit 0)) (.seq (.block 1 (.seq (.region (⟨_,by cbv⟩:RL [] [20,21,22,23,24,25,26,27,28,29,30] 283 3).1) (.seq (.region (⟨_,by cbv⟩:RL [] [20,21,22,23,24,25,26,27,28,29,30] 283 4).1) (.cond (x 31) (w ([o 2 (.mv (.c (.bl false)))]) (.ret)) (.skip))))) (.region [o 32 (.bin .add .no (x 7) (i 1)),m 7 32])))))))) (lk (.seq (.region (⟨_,by cbv⟩:RL [] [20,21,22,23,24,25,26,27,28,29,30] 283 7).1) (.ret))))⟩
def T.dY:=t1 [] [20,21,22,23,24,25,26,27,28,29,30] 283 F.dY (by kernel_rfl)
def F.dQ:cZ:=
 ⟨82,[.load true 76 (x 6)],.seq (.region (⟨_,by cbv⟩:RL [75,15,23,25,28,60] [] 23 0).1) (.seq (.regionD (⟨_,by cbv⟩:RL [75,15,23,25,28,60] [] 23 1).1 [0,1,2,3,4,5,6,7,8,9] [0,1,2,3,5]) (.seq (.regionD (⟨_,by cbv⟩:RL [75,15,23,25,28,60] [] 23 2).1 [0,1,2,3,5,7,8,10,11,12,4,6,9,13,14,15] [10,11,12,13,4,6,9,14]) (.seq (.region (⟨_,by cbv⟩:RL [75,15,23,25,28,60] [] 23 3).1) (.seq (.region (⟨_,by cbv⟩:RL [75,15,23,25,28,60] [] 23 4).1) (.seq (.seq (.region (⟨_,by cbv⟩:RL [75,15,23,25,28,60] [] 23 5).1) (.block 0 (w ([o 48 (.bin .eql .no (x 46) (i 1)),m 47 48]) (.cond (x 47) (.region (⟨_,by cbv⟩:RL [75,15,23,25,28,60] [] 23 7).1) (w ([o 54 (.bin .eql .no (x 46) (i 2)),m 53 54]) (.cond (x 53) (.regionD (⟨_,by cbv⟩:RL [75,15,23,25,28,60] [] 23 9).1 [0,1,2,3,4,5,6,7,8,9,10] [0,1,2,3,5]) (.skip))))))) (.seq (.seq (.region (⟨_,by cbv⟩:RL [75,15,23,25,28,60] [] 23 10).1) (.block 1 (.loop (lk (.seq (w ([m 67 9,o 68 (.bin .gtr .no (x 67) (i 0))]) (.cond (x 68) (.skip) (.exit 1))) (.seq (.block 2 (.regionD (⟨_,by cbv⟩:RL [75,15,23,25,28,60] [] 23 12).1 [0,1,2,3,4,5,6,7,8,9,10] [0,1,3])) (.region (⟨_,by cbv⟩:RL [75,15,23,25,28,60] [] 23 13).1))))))) (lk (w ([o 81 (.load true 76 (x 8)),s 76 6 81]) (.ret)))))))))⟩
def T.dQ:=t1 [75,15,23,25,28,60] [] 23 F.dQ (by kernel_rfl)
def R.dF:C 174:=⟨_,by cbv⟩
def F.eO:cZ:=
 ⟨52,[.mv (x 6)],w ([u 4 (.box (x 1)),o 6 (.mv (.c .np))]) (.seq (w ([m 8 0,o 9 (.bin .eql .ptr (x 8) (.c .np))]) (.cond (x 9) (.region (⟨_,by cbv⟩:D 193 2).1) (.skip))) (.seq (.seq (.region (⟨_,by cbv⟩:D 193 3).1) (.cond (x 16) (.seq (.seq (.region (⟨_,by cbv⟩:D 193 4).1) (.cond (x 21) (.regionD (⟨_,by cbv⟩:D 193 5).1 [0,1,2,3,4,5,6,7,8,9] [2,3,6]) (.skip))) (w ([m 30 0,m 6 30]) (.ret))) (.skip))) (.seq (.region (⟨_,by cbv⟩:D 193 7).1) (.seq (.region (⟨_,by cbv⟩:D 193 8).1) (w ([m 51 0,m 6 51]) (.ret))))))⟩
def T.eO:= @t0 193 F.eO (by kernel_rfl)
def F.eJ:cZ:=
 ⟨54,[.load true 10 (x 2)],.seq (.region (⟨_,by cbv⟩:RL [30,37,44] [] 12 0).1) (.seq (.region (⟨_,by cbv⟩:RL [30,37,44] [] 12 1).1) (.seq (.regionD (⟨_,by cbv⟩:RL [30,37,44] [] 12 2).1 [0,1,2,3,4,5,6,7] [0,1,3]) (.seq (.regionD (⟨_,by cbv⟩:RL [30,37,44] [] 12 3).1 [0,1,2,3,4,5,6,7] [0,1,3]) (.seq (.regionD (⟨_,by cbv⟩:RL [30,37,44] [] 12 4).1 [0,1,2,3,4,5,6,7] [0,1,3]) (.seq (.seq (.region (⟨_,by cbv⟩:RL [30,37,44] [] 12 5).1) (.cond (x 50) (.region (⟨_,by cbv⟩:RL [30,37,44] [] 12 6).1) (.skip))) (w ([o 53 (.load true 10 (x 3)),s 10 2 53]) (.ret)))))))⟩
def T.eJ:=t1 [30,37,44] [] 12 F.eJ (by kernel_rfl)
def R.n5:C 43:=⟨_,by cbv⟩
def R.xi:C 61:=⟨_,by cbv⟩
def R.fG:C 91:=⟨_,by cbv⟩
def R.jH:C 109:=⟨_,by cbv⟩
def R.rN:RF Pg [] [19,10] 169:=⟨_,by cbv⟩
def R.rL:C 242:=⟨_,by cbv⟩
def R.mi:C 254:=⟨_,by cbv⟩
def R.oU:C 279:=⟨_,by cbv⟩
def R.iV:C 291:=⟨_,by cbv⟩
def R.dK:C 324:=⟨_,by cbv⟩
def R.vj:C 357:=⟨_,by cbv⟩
def F.gj:cZ:=
 ⟨69,[.load true 148 (x 4),.mv (x 5)],.seq (.region (⟨_,by cbv⟩:D 7 0).1) (.seq (.region (⟨_,by cbv⟩:D 7 1).1) (w ([o 7 (.mv (.c (.bl false)))]) (.seq (w ([f 12 0 0 3,l 13 12]) (.block 0 (w ([o 15 (.bin .eql .no (x 13) (i 1)),m 14 15]) (.cond (x 14) (.region (⟨_,by cbv⟩:D 7 5).1) (w ([o 21 (.bin .eql .no (x 13) (i 2)),m 20 21]) (.cond (x 20) (.region (⟨_,by cbv⟩:D 7 7).1) (w ([o 29 (.bin .eql .no (x 13) (i 3)),m 28 29]) (.cond (x 28) (.region (⟨_,by cbv⟩:D 7 9).1) (w ([o 35 (.bin .eql .no (x 13) (i 4)),m 34 35]) (.cond (x 34) (.seq (.region (⟨_,by cbv⟩:D 7 11).1) (.region [o 7 (.mv (.c (.bl true)))])) (.skip))))))))))) (.seq (w ([m 50 7,o 51 (.un .not (x 50))]) (.cond (x 51) (.region (⟨_,by cbv⟩:D 7 14).1) (.skip))) (.seq (.regionD (⟨_,by cbv⟩:D 7 15).1 [0,1,2,3,4,5,6,7,8,9] [5,6,7,8]) (.ret))))))⟩
def T.gj:= @t0 7 F.gj (by kernel_rfl)
def R.dX:C 44:=⟨_,by cbv⟩
def F.oB:cZ:=
 ⟨84,[.load true 35 (x 2),.mv (x 3)],.seq (.region (⟨_,by cbv⟩:D 62 0).1) (.seq (.block 0 (.seq (.region (⟨_,by cbv⟩:D 62 1).1) (.cond (x 6) (.seq (.region (⟨_,by cbv⟩:D 62 2).1) (.ret)) (.seq (.region (⟨_,by cbv⟩:D 62 3).1) (.cond (x 11) (.seq (.region (⟨_,by cbv⟩:D 62 4).1) (.ret)) (.skip)))))) (.seq (.region (⟨_,by cbv⟩:D 62 5).1) (.seq (.seq (.region (⟨_,by cbv⟩:D 62 6).1) (.block 1 (w ([o 22 (.bin .eql .no (x 19) (.c (.int .u8 4))),m 21 22]) (.cond (x 21) (.seq (.seq (.region (⟨_,by cbv⟩:D 62 8).1) (.cond (x 25) (.seq (.region (⟨_,by cbv⟩:D 62 9).1) (.ret)) (.skip))) (.seq (.region (⟨_,by cbv⟩:D 62 10).1) (.seq (.region (⟨_,by cbv⟩:D 62 11).1) (.seq (.region (⟨_,by cbv⟩:D 62 12).1) (.cond (x 51) (.seq (.region (⟨_,by cbv⟩:D 62 13).1) (.ret)) (.skip)))))) (w ([o 54 (.bin .eql .no (x 19) (.c (.int .u8 6))),m 53 54]) (.cond (x 53) (.seq (.seq (.region (⟨_,by cbv⟩:D 62 15).1) (.cond (x 57) (.seq (.region (⟨_,by cbv⟩:D 62 16).1) (.ret)) (.skip))) (.region (⟨_,by cbv⟩:D 62 17).1)) (.seq (.region (⟨_,by cbv⟩:D 62 18).1) (.ret)))))))) (.seq (.block 2 (.seq (.region (⟨_,by cbv⟩:D 62 19).1) (.cond (x 71) (.seq (.region (⟨_,by cbv⟩:D 62 20).1) (.ret)) (.seq (.region (⟨_,by cbv⟩:D 62 21).1) (.cond (x 78) (.seq (.region (⟨_,by cbv⟩:D 62 22).1) (.ret)) (.skip)))))) (.seq (.region (⟨_,by cbv⟩:D 62 23).1) (.ret))))))⟩
def T.oB:= @t0 62 F.oB (by kernel_rfl)
def R.tk:C 325:=⟨_,by cbv⟩
def R.rZ:C 352:=⟨_,by cbv⟩
def R.oZ:C 380:=⟨_,by cbv⟩
def R.adi:RF Pg [7] [] 245:=⟨_,by cbv⟩
def R.je:C 163:=⟨_,by cbv⟩
def R.tG:C 160:=⟨_,by cbv⟩
def R.bu:C 253:=⟨_,by cbv⟩
def R.nst:RF Pg [4,13] [] 221:=⟨_,by cbv⟩
def R.shh:C 308:=⟨_,by cbv⟩
def R.mm1:RF Pg [6] [] 126:=⟨_,by cbv⟩
def F.Y4:cZ:=⟨44,[.mv (x 8),.mv (x 9),.mv (x 10)],.seq (.region (⟨_,by cbv⟩:RL [35,41,42,1007001] [] 136 0).1) (.seq (.seq (.region (⟨_,by cbv⟩:RL [35,41,42,1007001] [] 136 1).1) (.cond (x 16) (.seq (.region (⟨_,by cbv⟩:RL [35,41,42,1007001] [] 136 2).1) (.ret)) (.skip))) (.seq (.region (⟨_,by cbv⟩:RL [35,41,42,1007001] [] 136 3).1) (.seq (w ([m 24 12,o 25 (.un .not (x 24))]) (.cond (x 25) (.region (⟨_,by cbv⟩:RL [35,41,42,1007001] [] 136 5).1) (.skip))) (.seq (.region (⟨_,by cbv⟩:RL [35,41,42,1007001] [] 136 6).1) (.seq (.regionE (⟨_,by cbv⟩:RL [35,41,42,1007001] [] 136 7).1 [0,2,3,4,5,6,9] 7 1 [8,10,11,12] [9,7,8,3,4,9,1,8]) (.ret))))))⟩
def T.Y4:=t1 [35,41,42,1007001] [] 136 F.Y4 (by kernel_rfl)
end Go.Ab
