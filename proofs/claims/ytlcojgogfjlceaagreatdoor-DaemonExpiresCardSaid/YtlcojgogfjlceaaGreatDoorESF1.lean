/- Functions of the program as the abstract reading has them. Written by program. No condition. -/
import Derived.Test.YtlcojgogfjlceaaGreatDoorESI
set_option maxRecDepth 100000
set_option maxHeartbeats 0
set_option linter.defProp false
noncomputable section
namespace Go.Ab
open Go.Ab.Q
def R.lY:C 184:=⟨_,by cbv⟩
def R.oV:C 262:=⟨_,by cbv⟩
def R.rK:RF Pg [5] [] 300:=⟨_,by cbv⟩
def R.jN:C 353:=⟨_,by cbv⟩
def R.qA:C 389:=⟨_,by cbv⟩
def R.jL:C 15:=⟨_,by cbv⟩
def F.fT:cZ:=
 ⟨93,[.mv (x 4)],w ([o 4 (.mv (.c (.bl false)))]) (.seq (.seq (.region (⟨_,by cbv⟩:RL [77,1003007] [] 28 1).1) (.cond (x 30) (w ([o 4 (.mv (.c (.bl false)))]) (.ret)) (.skip))) (.seq (.region (⟨_,by cbv⟩:RL [77,1003007] [] 28 3).1) (.seq (.block 0 (.loop (lk (.block 1 (.seq (.region (⟨_,by cbv⟩:RL [77,1003007] [] 28 4).1) (.seq (w ([m 42 7,o 43 (.un .not (x 42))]) (.cond (x 43) (.exit 0) (.skip))) (.seq (.region (⟨_,by cbv⟩:RL [77,1003007] [] 28 6).1) (.seq (.region (⟨_,by cbv⟩:RL [77,1003007] [] 28 7).1) (.seq (.regionE (⟨_,by cbv⟩:RL [77,1003007] [] 28 8).1 [0,1,2,4,5,6] 3 7 [8,9] [5,6,3,1,2,7]) (.seq (.region (⟨_,by cbv⟩:RL [77,1003007] [] 28 9).1) (.cond (x 83) (.region (⟨_,by cbv⟩:RL [77,1003007] [] 28 10).1) (.skip)))))))))))) (lk (.seq (.region (⟨_,by cbv⟩:RL [77,1003007] [] 28 11).1) (w ([o 4 (.mv (.c (.bl true)))]) (.ret)))))))⟩
def T.fT:=t1 [77,1003007] [] 28 F.fT (by kernel_rfl)
def R.bH:C 148:=⟨_,by cbv⟩
def R.vn:C 191:=⟨_,by cbv⟩
def F.nk:cZ:=
 ⟨51,[.load true 76 (x 6),.mv (x 7),.mv (x 8)],.seq (.region (⟨_,by cbv⟩:D 197 0).1) (.seq (.seq (.region (⟨_,by cbv⟩:D 197 1).1) (.cond (x 13) (.seq (.region (⟨_,by cbv⟩:D 197 2).1) (.ret)) (.skip))) (.seq (.seq (.region (⟨_,by cbv⟩:D 197 3).1) (.cond (x 22) (.seq (.region (⟨_,by cbv⟩:D 197 4).1) (.ret)) (.skip))) (.seq (.region (⟨_,by cbv⟩:D 197 5).1) (.seq (w ([m 41 10,o 42 (.bin .neq .no (x 41) (i 0))]) (.cond (x 42) (.seq (.region (⟨_,by cbv⟩:D 197 7).1) (.ret)) (.skip))) (.seq (.region (⟨_,by cbv⟩:D 197 8).1) (.seq (.region (⟨_,by cbv⟩:D 197 9).1) (.ret)))))))⟩
def T.nk:= @t0 197 F.nk (by kernel_rfl)
def F.vk:cZ:=
 ⟨33,[.load true 16 (x 8)],.seq (.region (⟨_,by cbv⟩:D 321 0).1) (.seq (.region (⟨_,by cbv⟩:D 321 1).1) (.seq (.region (⟨_,by cbv⟩:D 321 2).1) (.ret)))⟩
def T.vk:= @t0 321 F.vk (by kernel_rfl)
def F.nY:cZ:=
 ⟨88,[],.seq (.region (⟨_,by cbv⟩:D 360 0).1) (.seq (.region (⟨_,by cbv⟩:D 360 1).1) (.seq (.region (⟨_,by cbv⟩:D 360 2).1) (.seq (.region (⟨_,by cbv⟩:D 360 3).1) (.seq (.region (⟨_,by cbv⟩:D 360 4).1) (.seq (.region (⟨_,by cbv⟩:D 360 5).1) (.seq (.region (⟨_,by cbv⟩:D 360 6).1) (.region (⟨_,by cbv⟩:D 360 7).1)))))))⟩
def T.nY:= @t0 360 F.nY (by kernel_rfl)
def R.iy:C 29:=⟨_,by cbv⟩
def F.dH:cZ:=
 ⟨31,[.load true 231 (x 4),.mv (x 5)],.seq (.region (⟨_,by cbv⟩:D 47 0).1) (.seq (.region (⟨_,by cbv⟩:D 47 1).1) (.seq (.seq (.region (⟨_,by cbv⟩:D 47 2).1) (.cond (x 11) (.seq (.region (⟨_,by cbv⟩:D 47 3).1) (.ret)) (.skip))) (.seq (.region (⟨_,by cbv⟩:D 47 4).1) (.ret))))⟩
def T.dH:= @t0 47 F.dH (by kernel_rfl)
def R.jG:C 137:=⟨_,by cbv⟩
def R.aW:C 167:=⟨_,by cbv⟩
def R.oc:RF Pg [] [17,18,19,20,26,27,28,29,30,36,37,38,39,40] 186:=⟨_,by cbv⟩
def R.br:C 228:=⟨_,by cbv⟩
def R.tH:C 309:=⟨_,by cbv⟩
def R.tB:C 355:=⟨_,by cbv⟩
def R.oX:C 361:=⟨_,by cbv⟩
def R.bt:C 383:=⟨_,by cbv⟩
def R.lq:C 11:=⟨_,by cbv⟩
def R.jm:C 36:=⟨_,by cbv⟩
def R.nz:C 42:=⟨_,by cbv⟩
def R.gy:C 48:=⟨_,by cbv⟩
def R.nZ:C 54:=⟨_,by cbv⟩
def F.fx:cZ:=
 ⟨133,[],.seq (.seq (.region (⟨_,by cbv⟩:RL [82] [127] 66 0).1) (.cond (x 21) (.ret) (.skip))) (.seq (.region (⟨_,by cbv⟩:RL [82] [127] 66 1).1) (.seq (w ([m 25 4,o 26 (.bin .eql .ptr (x 25) (.c .np))]) (.cond (x 26) (.seq (.region (⟨_,by cbv⟩:RL [82] [127] 66 3).1) (.ret)) (.skip))) (.seq (.block 0 (.loop (lk (.seq (.seq (.region (⟨_,by cbv⟩:RL [82] [127] 66 4).1) (.cond (x 39) (.skip) (.exit 0))) (.seq (.block 1 (.seq (.region (⟨_,by cbv⟩:RL [82] [127] 66 5).1) (.seq (.region (⟨_,by cbv⟩:RL [82] [127] 66 6).1) (.region (⟨_,by cbv⟩:RL [82] [127] 66 7).1)))) (.region (⟨_,by cbv⟩:RL [82] [127] 66 8).1)))))) (lk (.seq (.region (⟨_,by cbv⟩:RL [82] [127] 66 9).1) (.seq (.region (⟨_,by cbv⟩:RL [82] [127] 66 10).1) (.seq (.region (⟨_,by cbv⟩:RL [82] [127] 66 11).1) (.seq (.region (⟨_,by cbv⟩:RL [82] [127] 66 12).1) (.cond (x 129) (.region (⟨_,by cbv⟩:RL [82] [127] 66 13).1) (.skip))))))))))⟩
def T.fx:=t1 [82] [127] 66 F.fx (by kernel_rfl)
def F.eK:cZ:=
 ⟨34,[.mv (x 2)],w ([o 2 (.mv (.c (.bl false)))]) (.seq (.seq (.region (⟨_,by cbv⟩:RL [] [19,20,21,22,23,24,25,26,27,28] 284 1).1) (.block 0 (.loop (lk (w ([o 8 (.bin .lss .no (x 7) (x 6))]) (.seq (.cond (x 8) (.skip) (.exit 0)) (.seq (.block 1 (.seq (.region (⟨_,by cbv⟩:RL [] [19,20,21,22,23,24,25,26,27,28] 284 3).1) (.seq (.region (⟨_,by cbv⟩:RL [] [19,20,21,22,23,24,25,26,27,28] 284 4).1) (.cond (x 29) (w ([o 2 (.mv (.c (.bl false)))]) (.ret)) (.skip))))) (.region [o 30 (.bin .add .no (x 7) (i 1)),m 7 30])))))))) (lk (.seq (.region (⟨_,by cbv⟩:RL [] [19,20,21,22,23,24,25,26,27,28] 284 7).1) (.ret))))⟩
def T.eK:=t1 [] [19,20,21,22,23,24,25,26,27,28] 284 F.eK (by kernel_rfl)
def R.jM:C 24:=⟨_,by cbv⟩
def F.ky:cZ:=
 ⟨48,[.load true 148 (x 2)],.seq (.region (⟨_,by cbv⟩:D 25 0).1) (.seq (.region (⟨_,by cbv⟩:D 25 1).1) (.seq (.seq (.region (⟨_,by cbv⟩:D 25 2).1) (.block 0 (.loop (lk (w ([o 12 (.bin .lss .no (x 11) (x 10))]) (.seq (.cond (x 12) (.skip) (.exit 0)) (.seq (.block 1 (w ([m 13 11,m 3 13]) (.region (⟨_,by cbv⟩:D 25 5).1))) (.region [o 26 (.bin .add .no (x 11) (i 1)),m 11 26])))))))) (lk (.seq (.region (⟨_,by cbv⟩:D 25 7).1) (.seq (.region (⟨_,by cbv⟩:D 25 8).1) (w ([o 47 (.load true 148 (x 1)),s 148 2 47]) (.ret)))))))⟩
def T.ky:= @t0 25 F.ky (by kernel_rfl)
def R.gC:C 38:=⟨_,by cbv⟩
def R.ic:C 56:=⟨_,by cbv⟩
def R.cP:RF Pg [21] [] 86:=⟨_,by cbv⟩
def R.jF:C 116:=⟨_,by cbv⟩
def R.jn:RF Pg [] [44,38,32,26] 183:=⟨_,by cbv⟩
def R.xc:C 249:=⟨_,by cbv⟩
def F.fo:cZ:=
 ⟨103,[.mv (x 4)],.seq (.region (⟨_,by cbv⟩:RL [] [12,13,14,15,22,23,24,25,26,29,30,31,32,44,45,46,47,50,51,52,53,54,65,66,67,68,69,70,73,74,75,76,77,78,79,96,97,98,99,100] 280 0).1) (.seq (.seq (.region (⟨_,by cbv⟩:RL [] [12,13,14,15,22,23,24,25,26,29,30,31,32,44,45,46,47,50,51,52,53,54,65,66,67,68,69,70,73,74,75,76,77,78,79,96,97,98,99,100] 280 1).1) (.cond (x 33) (w ([o 4 (.mv (.c (.bl false)))]) (.ret)) (.skip))) (.seq (.seq (.region (⟨_,by cbv⟩:RL [] [12,13,14,15,22,23,24,25,26,29,30,31,32,44,45,46,47,50,51,52,53,54,65,66,67,68,69,70,73,74,75,76,77,78,79,96,97,98,99,100] 280 3).1) (.cond (x 80) (w ([o 4 (.mv (.c (.bl false)))]) (.ret)) (.skip))) (.seq (.seq (.region (⟨_,by cbv⟩:RL [] [12,13,14,15,22,23,24,25,26,29,30,31,32,44,45,46,47,50,51,52,53,54,65,66,67,68,69,70,73,74,75,76,77,78,79,96,97,98,99,100] 280 5).1) (.block 0 (.loop (lk (w ([o 85 (.bin .lss .no (x 84) (x 83))]) (.seq (.cond (x 85) (.skip) (.exit 0)) (.seq (.block 1 (.seq (.region (⟨_,by cbv⟩:RL [] [12,13,14,15,22,23,24,25,26,29,30,31,32,44,45,46,47,50,51,52,53,54,65,66,67,68,69,70,73,74,75,76,77,78,79,96,97,98,99,100] 280 7).1) (.seq (.region (⟨_,by cbv⟩:RL [] [12,13,14,15,22,23,24,25,26,29,30,31,32,44,45,46,47,50,51,52,53,54,65,66,67,68,69,70,73,74,75,76,77,78,79,96,97,98,99,100] 280 8).1) (.seq (.region (⟨_,by cbv⟩:RL [] [12,13,14,15,22,23,24,25,26,29,30,31,32,44,45,46,47,50,51,52,53,54,65,66,67,68,69,70,73,74,75,76,77,78,79,96,97,98,99,100] 280 9).1) (.cond (x 101) (w ([o 4 (.mv (.c (.bl false)))]) (.ret)) (.skip)))))) (.region [o 102 (.bin .add .no (x 84) (i 1)),m 84 102])))))))) (lk (w ([o 4 (.mv (.c (.bl true)))]) (.ret))))))⟩
def T.fo:=t1 [] [12,13,14,15,22,23,24,25,26,29,30,31,32,44,45,46,47,50,51,52,53,54,65,66,67,68,69,70,73,74,75,76,77,78,79,96,97,98,99,100] 280 F.fo (by kernel_rfl)
def F.A0:cZ:=⟨87,[.load true 141 (x 10),.load true 64 (x 11),.mv (x 12)],.seq (.region (⟨_,by cbv⟩:RL [34,40,46,58,64] [] 288 0).1) (.seq (.region (⟨_,by cbv⟩:RL [34,40,46,58,64] [] 288 1).1) (.seq (.region (⟨_,by cbv⟩:RL [34,40,46,58,64] [] 288 2).1) (.seq (.region (⟨_,by cbv⟩:RL [34,40,46,58,64] [] 288 3).1) (.seq (.region (⟨_,by cbv⟩:RL [34,40,46,58,64] [] 288 4).1) (.seq (.regionD (⟨_,by cbv⟩:RL [34,40,46,58,64] [] 288 5).1 [0,1,2,3,4,5,6,7] [1,2,3,4,6]) (.seq (.region (⟨_,by cbv⟩:RL [34,40,46,58,64] [] 288 6).1) (.seq (.region (⟨_,by cbv⟩:RL [34,40,46,58,64] [] 288 7).1) (.seq (.region (⟨_,by cbv⟩:RL [34,40,46,58,64] [] 288 8).1) (.seq (.seq (.region (⟨_,by cbv⟩:RL [34,40,46,58,64] [] 288 9).1) (.cond (x 73) (.seq (.regionD (⟨_,by cbv⟩:RL [34,40,46,58,64] [] 288 10).1 [0,1,2,3,4,5,6,7,8,9] [3,4,5,6,7,8]) (.ret)) (.skip))) (.seq (.regionD (⟨_,by cbv⟩:RL [34,40,46,58,64] [] 288 11).1 [0,1,2,3,4,5,6,7,8] [2,3,4,5,6]) (.ret)))))))))))⟩
def T.A0:=t1 [34,40,46,58,64] [] 288 F.A0 (by kernel_rfl)
end Go.Ab
