/- Functions as they are read. No condition. -/
import Derived.Test.YtddacpkeacbjfaaGreatDoorSI
set_option maxRecDepth 100000
set_option maxHeartbeats 0
set_option linter.defProp false
noncomputable section
namespace Go.Ab
open Go.Ab.Q
def R.dU:C 32:=⟨_,by cbv⟩
def R.nr:C 74:=⟨_,by cbv⟩
def R.fD:C 158:=⟨_,by cbv⟩
def F.iZ:dP:=
 ⟨94,[.mv (x 2)],w ([u 1 (.box (x 0)),o 2 (.mv (.c (.bl false)))]) (.seq (.seq (.region (⟨_,by cbv⟩:RL [] [13,14,15,16,19,20,21,22,40,41,42,43,44,45,46,47,48,64,65,66,67,70,71,72,73,74,80,81,82,83,84,85,86,87,88,89,90,91] 207 1).1) (.cond (x 23) (w ([o 2 (.mv (.c (.bl false)))]) (.ret)) (.skip))) (.seq (.seq (.region (⟨_,by cbv⟩:RL [] [13,14,15,16,19,20,21,22,40,41,42,43,44,45,46,47,48,64,65,66,67,70,71,72,73,74,80,81,82,83,84,85,86,87,88,89,90,91] 207 3).1) (.block 0 (.loop (lk (w ([o 28 (.bin .lss .no (x 27) (x 26))]) (.seq (.cond (x 28) (.skip) (.exit 0)) (.seq (.block 1 (.seq (.region (⟨_,by cbv⟩:RL [] [13,14,15,16,19,20,21,22,40,41,42,43,44,45,46,47,48,64,65,66,67,70,71,72,73,74,80,81,82,83,84,85,86,87,88,89,90,91] 207 5).1) (.seq (.region (⟨_,by cbv⟩:RL [] [13,14,15,16,19,20,21,22,40,41,42,43,44,45,46,47,48,64,65,66,67,70,71,72,73,74,80,81,82,83,84,85,86,87,88,89,90,91] 207 6).1) (.cond (x 49) (w ([o 2 (.mv (.c (.bl false)))]) (.ret)) (.skip))))) (.region [o 50 (.bin .add .no (x 27) (i 1)),m 27 50])))))))) (lk (.seq (.seq (.region (⟨_,by cbv⟩:RL [] [13,14,15,16,19,20,21,22,40,41,42,43,44,45,46,47,48,64,65,66,67,70,71,72,73,74,80,81,82,83,84,85,86,87,88,89,90,91] 207 9).1) (.block 2 (.loop (lk (w ([o 55 (.bin .lss .no (x 54) (x 53))]) (.seq (.cond (x 55) (.skip) (.exit 2)) (.seq (.block 3 (.seq (.region (⟨_,by cbv⟩:RL [] [13,14,15,16,19,20,21,22,40,41,42,43,44,45,46,47,48,64,65,66,67,70,71,72,73,74,80,81,82,83,84,85,86,87,88,89,90,91] 207 11).1) (.seq (.region (⟨_,by cbv⟩:RL [] [13,14,15,16,19,20,21,22,40,41,42,43,44,45,46,47,48,64,65,66,67,70,71,72,73,74,80,81,82,83,84,85,86,87,88,89,90,91] 207 12).1) (.cond (x 92) (w ([o 2 (.mv (.c (.bl false)))]) (.ret)) (.skip))))) (.region [o 93 (.bin .add .no (x 54) (i 1)),m 54 93])))))))) (lk (w ([o 2 (.mv (.c (.bl true)))]) (.ret)))))))⟩
def T.iZ:=t1 [] [13,14,15,16,19,20,21,22,40,41,42,43,44,45,46,47,48,64,65,66,67,70,71,72,73,74,80,81,82,83,84,85,86,87,88,89,90,91] 207 F.iZ (by kernel_rfl)
def F.eE:dP:=
 ⟨34,[.mv (x 2)],w ([o 2 (.mv (.c (.bl false)))]) (.seq (.seq (.region (⟨_,by cbv⟩:RL [] [19,20,21,22,23,24,25,26,27,28] 269 1).1) (.block 0 (.loop (lk (w ([o 8 (.bin .lss .no (x 7) (x 6))]) (.seq (.cond (x 8) (.skip) (.exit 0)) (.seq (.block 1 (.seq (.region (⟨_,by cbv⟩:RL [] [19,20,21,22,23,24,25,26,27,28] 269 3).1) (.seq (.region (⟨_,by cbv⟩:RL [] [19,20,21,22,23,24,25,26,27,28] 269 4).1) (.cond (x 29) (w ([o 2 (.mv (.c (.bl false)))]) (.ret)) (.skip))))) (.region [o 30 (.bin .add .no (x 7) (i 1)),m 7 30])))))))) (lk (.seq (.region (⟨_,by cbv⟩:RL [] [19,20,21,22,23,24,25,26,27,28] 269 7).1) (.ret))))⟩
def T.eE:=t1 [] [19,20,21,22,23,24,25,26,27,28] 269 F.eE (by kernel_rfl)
def R.rh:RF Pg [] [11] 100:=⟨_,by cbv⟩
def R.jF:C 106:=⟨_,by cbv⟩
def F.dZ:dP:=
 ⟨30,[],.seq (.region (⟨_,by cbv⟩:D 142 0).1) (.regionD (⟨_,by cbv⟩:D 142 1).1 [0,1,2,3,4,5,6,7,8,9,10,11,12,13,14,15] [])⟩
def T.dZ:= @t0 142 F.dZ (by kernel_rfl)
def F.fg:dP:=
 ⟨84,[.load true 35 (x 2),.mv (x 3)],.seq (.region (⟨_,by cbv⟩:D 252 0).1) (.seq (.block 0 (.seq (.region (⟨_,by cbv⟩:D 252 1).1) (.cond (x 6) (.seq (.region (⟨_,by cbv⟩:D 252 2).1) (.ret)) (.seq (.region (⟨_,by cbv⟩:D 252 3).1) (.cond (x 11) (.seq (.region (⟨_,by cbv⟩:D 252 4).1) (.ret)) (.skip)))))) (.seq (.region (⟨_,by cbv⟩:D 252 5).1) (.seq (.seq (.region (⟨_,by cbv⟩:D 252 6).1) (.block 1 (w ([o 22 (.bin .eql .no (x 19) (.c (.int .u8 4))),m 21 22]) (.cond (x 21) (.seq (.seq (.region (⟨_,by cbv⟩:D 252 8).1) (.cond (x 25) (.seq (.region (⟨_,by cbv⟩:D 252 9).1) (.ret)) (.skip))) (.seq (.region (⟨_,by cbv⟩:D 252 10).1) (.seq (.region (⟨_,by cbv⟩:D 252 11).1) (.seq (.region (⟨_,by cbv⟩:D 252 12).1) (.cond (x 51) (.seq (.region (⟨_,by cbv⟩:D 252 13).1) (.ret)) (.skip)))))) (w ([o 54 (.bin .eql .no (x 19) (.c (.int .u8 6))),m 53 54]) (.cond (x 53) (.seq (.seq (.region (⟨_,by cbv⟩:D 252 15).1) (.cond (x 57) (.seq (.region (⟨_,by cbv⟩:D 252 16).1) (.ret)) (.skip))) (.region (⟨_,by cbv⟩:D 252 17).1)) (.seq (.region (⟨_,by cbv⟩:D 252 18).1) (.ret)))))))) (.seq (.block 2 (.seq (.region (⟨_,by cbv⟩:D 252 19).1) (.cond (x 71) (.seq (.region (⟨_,by cbv⟩:D 252 20).1) (.ret)) (.seq (.region (⟨_,by cbv⟩:D 252 21).1) (.cond (x 78) (.seq (.region (⟨_,by cbv⟩:D 252 22).1) (.ret)) (.skip)))))) (.seq (.region (⟨_,by cbv⟩:D 252 23).1) (.ret))))))⟩
def T.fg:= @t0 252 F.fg (by kernel_rfl)
def F.dm:dP:=
 ⟨69,[],.seq (.region (⟨_,by cbv⟩:D 119 0).1) (.seq (.region (⟨_,by cbv⟩:D 119 1).1) (.seq (.regionD (⟨_,by cbv⟩:D 119 2).1 [0,1,2,3,4,5,6,7,8,9,10,11,12,13,14,15,16] [0,2,3,4,5,6,8,13]) (.seq (.region (⟨_,by cbv⟩:D 119 3).1) (.seq (.regionD (⟨_,by cbv⟩:D 119 4).1 [0,1,2,3,4,5,6,7,8,9,10,11,12,13,14,15,16,17,18,19,20,21,22,23] []) (.region (⟨_,by cbv⟩:D 119 5).1)))))⟩
def T.dm:= @t0 119 F.dm (by kernel_rfl)
def R.fx:C 247:=⟨_,by cbv⟩
def R.ov:C 295:=⟨_,by cbv⟩
def R.fV:C 6:=⟨_,by cbv⟩
def R.uV:C 24:=⟨_,by cbv⟩
def F.eg:dP:=
 ⟨63,[.load true 148 (x 2)],.seq (.region (⟨_,by cbv⟩:D 36 0).1) (.seq (.region (⟨_,by cbv⟩:D 36 1).1) (.seq (.seq (.region (⟨_,by cbv⟩:D 36 2).1) (.block 0 (.loop (lk (w ([o 15 (.bin .lss .no (x 14) (x 13))]) (.seq (.cond (x 15) (.skip) (.exit 0)) (.seq (.block 1 (w ([m 16 14,m 3 16]) (w ([o 4 (.mv (.c (.sl 1 [] true)))]) (.seq (.seq (.region (⟨_,by cbv⟩:D 36 6).1) (.block 2 (.loop (lk (w ([o 25 (.bin .lss .no (x 24) (x 23))]) (.seq (.cond (x 25) (.skip) (.exit 2)) (.seq (.block 3 (.seq (.region (⟨_,by cbv⟩:D 36 8).1) (.region (⟨_,by cbv⟩:D 36 9).1))) (.region [o 34 (.bin .add .no (x 24) (i 1)),m 24 34])))))))) (lk (.region (⟨_,by cbv⟩:D 36 11).1)))))) (lk (.region [o 41 (.bin .add .no (x 14) (i 1)),m 14 41]))))))))) (lk (.seq (.regionD (⟨_,by cbv⟩:D 36 13).1 [0,1,3,4,2,6,5,7,8,9] [3,4,6,2,5]) (.seq (.regionD (⟨_,by cbv⟩:D 36 14).1 [0,1,3,4,2,6,5,7,8,9] [3,4,6,2,5]) (.seq (.region (⟨_,by cbv⟩:D 36 15).1) (w ([o 62 (.load true 148 (x 1)),s 148 2 62]) (.ret))))))))⟩
def T.eg:= @t0 36 F.eg (by kernel_rfl)
def R.jb:RF Pg [] [8,9,10,11,18,19,20,21,22,29,30,31,32,46,47,48,49,67,68,69,70,71,72,82,83,84,85] 175:=⟨_,by cbv⟩
def R.tn:RF Pg [16] [] 199:=⟨_,by cbv⟩
def R.gG:C 241:=⟨_,by cbv⟩
def R.qH:C 254:=⟨_,by cbv⟩
def R.nB:C 266:=⟨_,by cbv⟩
def R.wW:C 290:=⟨_,by cbv⟩
def R.lA:C 329:=⟨_,by cbv⟩
def R.mr:C 13:=⟨_,by cbv⟩
def F.eD:dP:=
 ⟨54,[.load true 10 (x 2)],.seq (.region (⟨_,by cbv⟩:RL [30,37,44] [] 25 0).1) (.seq (.region (⟨_,by cbv⟩:RL [30,37,44] [] 25 1).1) (.seq (.regionD (⟨_,by cbv⟩:RL [30,37,44] [] 25 2).1 [0,1,2,3,4,5,6,7] [0,1,3]) (.seq (.regionD (⟨_,by cbv⟩:RL [30,37,44] [] 25 3).1 [0,1,2,3,4,5,6,7] [0,1,3]) (.seq (.regionD (⟨_,by cbv⟩:RL [30,37,44] [] 25 4).1 [0,1,2,3,4,5,6,7] [0,1,3]) (.seq (.seq (.region (⟨_,by cbv⟩:RL [30,37,44] [] 25 5).1) (.cond (x 50) (.region (⟨_,by cbv⟩:RL [30,37,44] [] 25 6).1) (.skip))) (w ([o 53 (.load true 10 (x 3)),s 10 2 53]) (.ret)))))))⟩
def T.eD:=t1 [30,37,44] [] 25 F.eD (by kernel_rfl)
def R.wX:C 91:=⟨_,by cbv⟩
def R.nA:C 109:=⟨_,by cbv⟩
def R.gD:C 121:=⟨_,by cbv⟩
def R.bm:C 176:=⟨_,by cbv⟩
def R.zX:C 194:=⟨_,by cbv⟩
def R.jr:RF Pg [] [44,38,32,26] 200:=⟨_,by cbv⟩
def R.kN:C 255:=⟨_,by cbv⟩
def R.gy:C 285:=⟨_,by cbv⟩
def R.jc:C 167:=⟨_,by cbv⟩
def R.nI:C 166:=⟨_,by cbv⟩
def R.dS:C 86:=⟨_,by cbv⟩
def R.qe:C 88:=⟨_,by cbv⟩
def F.kj:dP:=⟨48,[.load true 148 (x 2)],.seq (.region (⟨_,by cbv⟩:RL [32] [] 21 0).1) (.seq (.region (⟨_,by cbv⟩:RL [32] [] 21 1).1) (.seq (.seq (.region (⟨_,by cbv⟩:RL [32] [] 21 2).1) (.block 0 (.loop (lk (w ([o 12 (.bin .lss .no (x 11) (x 10))]) (.seq (.cond (x 12) (.skip) (.exit 0)) (.seq (.block 1 (w ([m 13 11,m 3 13]) (.region (⟨_,by cbv⟩:RL [32] [] 21 5).1))) (.region [o 26 (.bin .add .no (x 11) (i 1)),m 11 26])))))))) (lk (.seq (.regionD (⟨_,by cbv⟩:RL [32] [] 21 7).1 [0,1,2,3,4,6,7,9,5,8,10,11,12,13,14] [6,7,9,5]) (.seq (.region (⟨_,by cbv⟩:RL [32] [] 21 8).1) (w ([o 47 (.load true 148 (x 1)),s 148 2 47]) (.ret)))))))⟩
def T.kj:=t1 [32] [] 21 F.kj (by kernel_rfl)
def F.Dd:dP:=⟨91,[],.seq (.region (⟨_,by cbv⟩:RL [59] [] 37 0).1) (.seq (w ([m 16 5,o 17 (.bin .neq .no (x 16) (i 0))]) (.cond (x 17) (.seq (.region (⟨_,by cbv⟩:RL [59] [] 37 2).1) (.ret)) (.skip))) (.seq (.region (⟨_,by cbv⟩:RL [59] [] 37 3).1) (.seq (.regionD (⟨_,by cbv⟩:RL [59] [] 37 4).1 [0,1,2,3,4,5,6,7,8,9,10,11,12,13] [1,2,3,4,5,6,7,11]) (.seq (w ([m 43 9,o 44 (.un .not (x 43))]) (.cond (x 44) (.seq (.region (⟨_,by cbv⟩:RL [59] [] 37 6).1) (.ret)) (.skip))) (.seq (.region (⟨_,by cbv⟩:RL [59] [] 37 7).1) (.seq (.region (⟨_,by cbv⟩:RL [59] [] 37 8).1) (.region (⟨_,by cbv⟩:RL [59] [] 37 9).1)))))))⟩
def T.Dd:=t1 [59] [] 37 F.Dd (by kernel_rfl)
end Go.Ab
