/- Functions as they are read. No condition. -/
import Derived.Test.YtddacpkeacbjfaaGreatDoorSI
set_option maxRecDepth 100000
set_option maxHeartbeats 0
set_option linter.defProp false
noncomputable section
namespace Go.Ab
open Go.Ab.Q
def R.eU:C 56:=⟨_,by cbv⟩
def R.uF:C 98:=⟨_,by cbv⟩
def R.fC:C 122:=⟨_,by cbv⟩
def R.tp:RF Pg [] [20,21,22,23,24,25,26,27,28,29,30] 183:=⟨_,by cbv⟩
def R.ow:C 262:=⟨_,by cbv⟩
def R.iX:C 3:=⟨_,by cbv⟩
def R.kb:C 27:=⟨_,by cbv⟩
def R.cE:C 57:=⟨_,by cbv⟩
def R.jG:C 69:=⟨_,by cbv⟩
def R.s8:C 93:=⟨_,by cbv⟩
def R.gF:C 117:=⟨_,by cbv⟩
def R.nH:C 178:=⟨_,by cbv⟩
def R.mU:C 196:=⟨_,by cbv⟩
def R.kM:C 208:=⟨_,by cbv⟩
def R.lQ:C 257:=⟨_,by cbv⟩
def R.uG:C 263:=⟨_,by cbv⟩
def R.n5:C 293:=⟨_,by cbv⟩
def R.gf:C 16:=⟨_,by cbv⟩
def R.qX:C 52:=⟨_,by cbv⟩
def F.dT:dP:=
 ⟨31,[.load true 231 (x 4),.mv (x 5)],.seq (.region (⟨_,by cbv⟩:D 64 0).1) (.seq (.region (⟨_,by cbv⟩:D 64 1).1) (.seq (.seq (.region (⟨_,by cbv⟩:D 64 2).1) (.cond (x 11) (.seq (.region (⟨_,by cbv⟩:D 64 3).1) (.ret)) (.skip))) (.seq (.region (⟨_,by cbv⟩:D 64 4).1) (.ret))))⟩
def T.dT:= @t0 64 F.dT (by kernel_rfl)
def R.kf:C 112:=⟨_,by cbv⟩
def R.ou:C 185:=⟨_,by cbv⟩
def R.nD:RF Pg [] [17,18,19,20,26,27,28,29,30,36,37,38,39,40] 203:=⟨_,by cbv⟩
def R.zJ:C 264:=⟨_,by cbv⟩
def R.iW:C 11:=⟨_,by cbv⟩
def R.nv:C 17:=⟨_,by cbv⟩
def R.jP:C 35:=⟨_,by cbv⟩
def R.lu:C 53:=⟨_,by cbv⟩
def R.gr:C 65:=⟨_,by cbv⟩
def R.fK:C 89:=⟨_,by cbv⟩
def R.uR:C 101:=⟨_,by cbv⟩
def R.c9:RF Pg [] [32,31,27] 113:=⟨_,by cbv⟩
def R.mF:C 167:=⟨_,by cbv⟩
def R.uK:C 186:=⟨_,by cbv⟩
def R.lx:C 204:=⟨_,by cbv⟩
def F.lP:dP:=
 ⟨31,[.mv (x 2)],w ([u 1 (.box (x 0)),o 2 (.mv (.c (.bl false)))]) (w ([o 3 (.mv (i 32))]) (.seq (.seq (.region (⟨_,by cbv⟩:RL [] [29] 253 2).1) (.cond (x 6) (.region [o 3 (.mv (i 128))]) (.skip))) (.seq (.region (⟨_,by cbv⟩:RL [] [29] 253 4).1) (.ret))))⟩
def T.lP:=t1 [] [29] 253 F.lP (by kernel_rfl)
def R.jR:C 12:=⟨_,by cbv⟩
def F.dI:dP:=
 ⟨39,[.mv (x 4)],w ([u 3 (.box (x 1)),o 4 (.mv (.c (.sl 34 [] true)))]) (.seq (.region (⟨_,by cbv⟩:RL [33] [24,22] 30 1).1) (w ([o 6 (.mv (i 0))]) (.seq (.block 0 (.loop (lk (.seq (.seq (.region (⟨_,by cbv⟩:RL [33] [24,22] 30 3).1) (.cond (x 25) (.skip) (.exit 0))) (.block 1 (.region (⟨_,by cbv⟩:RL [33] [24,22] 30 4).1)))))) (lk (.seq (.regionD (⟨_,by cbv⟩:RL [33] [24,22] 30 5).1 [0,1,2,3,4,6,7,8,5,9,10,11] [3,8,5,9]) (.ret))))))⟩
def T.dI:=t1 [33] [24,22] 30 F.dI (by kernel_rfl)
def R.mA:C 60:=⟨_,by cbv⟩
def R.uD:C 96:=⟨_,by cbv⟩
def R.my:RF Pg [] [24,18,12] 108:=⟨_,by cbv⟩
def R.jd:C 120:=⟨_,by cbv⟩
def R.eX:C 162:=⟨_,by cbv⟩
def R.nG:RF Pg [] [17,18,19,20,21,28,29,30,31] 181:=⟨_,by cbv⟩
def R.qb:RF Pg [] [18,19,20,21,22,23,24] 193:=⟨_,by cbv⟩
def R.eJ:C 211:=⟨_,by cbv⟩
def R.ra:C 248:=⟨_,by cbv⟩
def R.uM:C 260:=⟨_,by cbv⟩
def R.jA:C 272:=⟨_,by cbv⟩
def R.jT:RF Pg [] [9,10,11] 296:=⟨_,by cbv⟩
def F.ei:dP:=
 ⟨98,[.mv (x 4)],.seq (.region (⟨_,by cbv⟩:D 7 0).1) (.seq (.seq (.region (⟨_,by cbv⟩:D 7 1).1) (.cond (x 75) (w ([o 4 (.mv (.c (.bl false)))]) (.ret)) (.skip))) (.seq (.seq (.region (⟨_,by cbv⟩:D 7 3).1) (.block 0 (.loop (lk (w ([o 80 (.bin .lss .no (x 79) (x 78))]) (.seq (.cond (x 80) (.skip) (.exit 0)) (.seq (.block 1 (w ([m 81 79,m 5 81]) (.seq (.region (⟨_,by cbv⟩:D 7 6).1) (.cond (x 93) (w ([o 4 (.mv (.c (.bl false)))]) (.ret)) (.skip))))) (.region [o 94 (.bin .add .no (x 79) (i 1)),m 79 94])))))))) (lk (.seq (.region (⟨_,by cbv⟩:D 7 9).1) (.ret)))))⟩
def T.ei:= @t0 7 F.ei (by kernel_rfl)
def R.fZ:C 61:=⟨_,by cbv⟩
def R.tk:C 97:=⟨_,by cbv⟩
def R.lB:C 115:=⟨_,by cbv⟩
def R.jD:C 151:=⟨_,by cbv⟩
def R.fy:C 163:=⟨_,by cbv⟩
def R.dJ:C 188:=⟨_,by cbv⟩
def R.p9:RF Pg [] [10] 261:=⟨_,by cbv⟩
def R.nC:RF Pg [] [18,19,20,21,22,29,30,31,32] 267:=⟨_,by cbv⟩
def R.re:C 291:=⟨_,by cbv⟩
def R.ju:RF Pg [24] [] 45:=⟨_,by cbv⟩
def R.iA:RF Pg [26] [] 168:=⟨_,by cbv⟩
def R.rj:C 90:=⟨_,by cbv⟩
def R.dC:C 165:=⟨_,by cbv⟩
def R.bp:C 92:=⟨_,by cbv⟩
def F.jJ:dP:=⟨127,[.load true 148 (x 2)],.seq (.region (⟨_,by cbv⟩:RL [11] [] 19 0).1) (.seq (.region (⟨_,by cbv⟩:RL [11] [] 19 1).1) (w ([f 13 9 111 1,v (.store 1 (x 13) (.c (.sl 0 [] true)))]) (.seq (.seq (.region (⟨_,by cbv⟩:RL [11] [] 19 3).1) (.block 0 (.loop (lk (w ([o 18 (.bin .lss .no (x 17) (x 16))]) (.seq (.cond (x 18) (.skip) (.exit 0)) (.seq (.block 1 (w ([m 19 17,m 3 19]) (.seq (.region (⟨_,by cbv⟩:RL [11] [] 19 6).1) (.seq (.region (⟨_,by cbv⟩:RL [11] [] 19 7).1) (.seq (.region (⟨_,by cbv⟩:RL [11] [] 19 8).1) (w ([o 5 (.mv (.c (.bl false))),o 6 (.mv (i 0))]) (.seq (w ([o 7 (.mv (i 1))]) (.block 2 (.loop (lk (.seq (w ([m 42 7,o 43 (.bin .leq .no (x 42) (i 3))]) (.cond (x 43) (.skip) (.exit 2))) (.seq (.block 3 (.seq (.region (⟨_,by cbv⟩:RL [11] [] 19 12).1) (.seq (.seq (.region (⟨_,by cbv⟩:RL [11] [] 19 13).1) (.cond (x 54) (.exit 3) (.skip))) (.seq (.seq (.region (⟨_,by cbv⟩:RL [11] [] 19 14).1) (.cond (x 63) (.region (⟨_,by cbv⟩:RL [11] [] 19 15).1) (.skip))) (.seq (.region (⟨_,by cbv⟩:RL [11] [] 19 16).1) (.region (⟨_,by cbv⟩:RL [11] [] 19 17).1)))))) (.region (⟨_,by cbv⟩:RL [11] [] 19 18).1))))))) (lk (.seq (w ([m 84 5]) (.cond (x 84) (.region (⟨_,by cbv⟩:RL [11] [] 19 20).1) (.skip))) (.seq (.region (⟨_,by cbv⟩:RL [11] [] 19 21).1) (.cond (x 108) (.region (⟨_,by cbv⟩:RL [11] [] 19 22).1) (.skip)))))))))))) (lk (.region [o 125 (.bin .add .no (x 17) (i 1)),m 17 125]))))))))) (lk (w ([o 126 (.load true 148 (x 1)),s 148 2 126]) (.ret))))))⟩
def T.jJ:=t1 [11] [] 19 F.jJ (by kernel_rfl)
end Go.Ab
