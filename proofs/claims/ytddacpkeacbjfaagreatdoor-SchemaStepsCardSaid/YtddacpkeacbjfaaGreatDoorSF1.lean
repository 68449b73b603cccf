/- Functions as they are read. No condition. -/
import Derived.Test.YtddacpkeacbjfaaGreatDoorSI
set_option maxRecDepth 100000
set_option maxHeartbeats 0
set_option linter.defProp false
noncomputable section
namespace Go.Ab
open Go.Ab.Q
def R.tA:C 8:=⟨_,by cbv⟩
def R.en:C 62:=⟨_,by cbv⟩
def R.iH:RF Pg [9] [] 128:=⟨_,by cbv⟩
def R.fO:C 195:=⟨_,by cbv⟩
def R.oN:C 286:=⟨_,by cbv⟩
def R.kh:C 338:=⟨_,by cbv⟩
def F.eF:dP:=
 ⟨52,[.mv (x 2)],w ([u 1 (.box (x 0)),o 2 (.mv (.c (.str [])))]) (.seq (.seq (.region (⟨_,by cbv⟩:D 123 1).1) (.cond (x 8) (w ([o 2 (.mv (.c (.str [])))]) (.ret)) (.skip))) (w ([o 3 (.mv (.c (.str [])))]) (.seq (.seq (.region (⟨_,by cbv⟩:D 123 4).1) (.cond (x 11) (.seq (w ([o 4 (.mv (i 0))]) (.block 0 (.loop (lk (.seq (w ([m 12 4,o 13 (.bin .lss .no (x 12) (i 4))]) (.cond (x 13) (.skip) (.exit 0))) (.seq (.block 1 (.region (⟨_,by cbv⟩:D 123 7).1)) (.region (⟨_,by cbv⟩:D 123 8).1))))))) (lk (.seq (.region (⟨_,by cbv⟩:D 123 9).1) (.ret)))) (.skip))) (lk (.seq (w ([o 5 (.mv (i 0))]) (.block 2 (.loop (lk (.seq (w ([m 27 5,o 28 (.bin .lss .no (x 27) (i 8))]) (.cond (x 28) (.skip) (.exit 2))) (.seq (.block 3 (.region (⟨_,by cbv⟩:D 123 12).1)) (.region (⟨_,by cbv⟩:D 123 13).1))))))) (lk (.seq (.region (⟨_,by cbv⟩:D 123 14).1) (.ret))))))))⟩
def T.eF:= @t0 123 F.eF (by kernel_rfl)
def F.dH:dP:=
 ⟨131,[.mv (x 4)],.seq (.region (⟨_,by cbv⟩:D 22 0).1) (.seq (.seq (.region (⟨_,by cbv⟩:D 22 1).1) (.cond (x 110) (w ([o 4 (.mv (.c (.bl false)))]) (.ret)) (.skip))) (.seq (.seq (.region (⟨_,by cbv⟩:D 22 3).1) (.block 0 (.loop (lk (w ([o 115 (.bin .lss .no (x 114) (x 113))]) (.seq (.cond (x 115) (.skip) (.exit 0)) (.seq (.block 1 (w ([m 116 114,m 5 116]) (.seq (.region (⟨_,by cbv⟩:D 22 6).1) (.cond (x 129) (w ([o 4 (.mv (.c (.bl false)))]) (.ret)) (.skip))))) (.region [o 130 (.bin .add .no (x 114) (i 1)),m 114 130])))))))) (lk (w ([o 4 (.mv (.c (.bl true)))]) (.ret)))))⟩
def T.dH:= @t0 22 F.dH (by kernel_rfl)
def R.tj:C 179:=⟨_,by cbv⟩
def R.tt:C 197:=⟨_,by cbv⟩
def R.dB:C 258:=⟨_,by cbv⟩
def R.fh:C 294:=⟨_,by cbv⟩
def R.kW:C 29:=⟨_,by cbv⟩
def R.ny:C 47:=⟨_,by cbv⟩
def R.eV:C 59:=⟨_,by cbv⟩
def R.fY:C 71:=⟨_,by cbv⟩
def R.gv:C 77:=⟨_,by cbv⟩
def R.qZ:C 95:=⟨_,by cbv⟩
def R.iY:C 107:=⟨_,by cbv⟩
def R.iI:C 137:=⟨_,by cbv⟩
def R.kX:C 180:=⟨_,by cbv⟩
def F.ki:dP:=
 ⟨28,[.mv (x 4)],.seq (.region (⟨_,by cbv⟩:RL [] [26] 198 0).1) (.seq (.region (⟨_,by cbv⟩:RL [] [26] 198 1).1) (.ret))⟩
def T.ki:=t1 [] [26] 198 F.ki (by kernel_rfl)
def R.ri:C 259:=⟨_,by cbv⟩
def R.kO:C 277:=⟨_,by cbv⟩
def F.bZ:dP:=
 ⟨53,[],.seq (.region (⟨_,by cbv⟩:RL [] [33,31,26] 314 0).1) (.block 0 (.loop (lk (.seq (.seq (.region (⟨_,by cbv⟩:RL [] [33,31,26] 314 1).1) (.cond (x 14) (.skip) (.exit 0))) (.seq (.block 1 (w ([m 17 8,m 9 17]) (.block 2 (.loop (lk (.seq (.seq (.region (⟨_,by cbv⟩:RL [] [33,31,26] 314 3).1) (.cond (x 34) (.skip) (.exit 2))) (.seq (.block 3 (.regionD (⟨_,by cbv⟩:RL [] [33,31,26] 314 4).1 [0,1,2,3,4,5,6,7,8,9,10,11,12,13,14,15,16,17] [])) (.region (⟨_,by cbv⟩:RL [] [33,31,26] 314 5).1)))))))) (lk (.region (⟨_,by cbv⟩:RL [] [33,31,26] 314 6).1)))))))⟩
def T.bZ:=t1 [] [33,31,26] 314 F.bZ (by kernel_rfl)
def R.du:C 66:=⟨_,by cbv⟩
def R.tu:C 102:=⟨_,by cbv⟩
def F.dj:dP:=
 ⟨149,[],.seq (.region (⟨_,by cbv⟩:RL [51,107,1005007] [] 156 0).1) (.seq (.region (⟨_,by cbv⟩:RL [51,107,1005007] [] 156 1).1) (.seq (.seq (.region (⟨_,by cbv⟩:RL [51,107,1005007] [] 156 2).1) (.cond (x 29) (.seq (.region (⟨_,by cbv⟩:RL [51,107,1005007] [] 156 3).1) (.region (⟨_,by cbv⟩:RL [51,107,1005007] [] 156 4).1)) (.skip))) (w ([o 6 (.mv (.c (.int .u32 0)))]) (.seq (.regionE (⟨_,by cbv⟩:RL [51,107,1005007] [] 156 6).1 [0,1,2,3,4,6,8,9,10,11] 5 7 [12,13,14,15,16,17,18,19,20,21] [2,3,4,9,10,11,7]) (.seq (.region (⟨_,by cbv⟩:RL [51,107,1005007] [] 156 7).1) (.seq (.regionD (⟨_,by cbv⟩:RL [51,107,1005007] [] 156 8).1 [0,1,2,3,4,5,6,7,8,9,10,11,12,13,14,15,16,17,18,19,20,21,22,23,24,25,26] [1,2,3,4,6,7,8,9,11,12,13,14,15,17,22,23]) (.seq (w ([m 87 10,o 88 (.bin .neq .no (x 87) (i 0))]) (.cond (x 88) (.seq (.region (⟨_,by cbv⟩:RL [51,107,1005007] [] 156 10).1) (.seq (.region (⟨_,by cbv⟩:RL [51,107,1005007] [] 156 11).1) (.seq (.region (⟨_,by cbv⟩:RL [51,107,1005007] [] 156 12).1) (.ret)))) (.skip))) (.seq (.regionD (⟨_,by cbv⟩:RL [51,107,1005007] [] 156 13).1 [0,1,2,3,4,5,7,8,9,10,11,6,12,13,14,15,16,17,18] [1,2,3,8,9,10,11,12,6,16]) (.seq (.region (⟨_,by cbv⟩:RL [51,107,1005007] [] 156 14).1) (.seq (.region (⟨_,by cbv⟩:RL [51,107,1005007] [] 156 15).1) (.seq (.region (⟨_,by cbv⟩:RL [51,107,1005007] [] 156 16).1) (.seq (.region (⟨_,by cbv⟩:RL [51,107,1005007] [] 156 17).1) (.region (⟨_,by cbv⟩:RL [51,107,1005007] [] 156 18).1)))))))))))))⟩
def T.dj:=t1 [51,107,1005007] [] 156 F.dj (by kernel_rfl)
def R.mB:C 43:=⟨_,by cbv⟩
def R.mu:C 49:=⟨_,by cbv⟩
def R.jq:C 55:=⟨_,by cbv⟩
def R.gi:RF Pg [] [43,41,40] 67:=⟨_,by cbv⟩
def F.qa:dP:=
 ⟨84,[.mv (x 2)],w ([u 1 (.box (x 0)),o 2 (.mv (.c (.bl false)))]) (.seq (.seq (.region (⟨_,by cbv⟩:RL [] [13,14,15,16,19,20,21,22,25,26,27,28,53,54,55,56,59,60,61,62,63,64,70,71,72,73,74,75,76,77,78,79,80,81] 103 1).1) (.cond (x 29) (w ([o 2 (.mv (.c (.bl false)))]) (.ret)) (.skip))) (.seq (.seq (.region (⟨_,by cbv⟩:RL [] [13,14,15,16,19,20,21,22,25,26,27,28,53,54,55,56,59,60,61,62,63,64,70,71,72,73,74,75,76,77,78,79,80,81] 103 3).1) (.cond (x 33) (w ([o 2 (.mv (.c (.bl false)))]) (.ret)) (.skip))) (.seq (.seq (.region (⟨_,by cbv⟩:RL [] [13,14,15,16,19,20,21,22,25,26,27,28,53,54,55,56,59,60,61,62,63,64,70,71,72,73,74,75,76,77,78,79,80,81] 103 5).1) (.block 0 (.loop (lk (w ([o 38 (.bin .lss .no (x 37) (x 36))]) (.seq (.cond (x 38) (.skip) (.exit 0)) (.seq (.block 1 (.seq (.region (⟨_,by cbv⟩:RL [] [13,14,15,16,19,20,21,22,25,26,27,28,53,54,55,56,59,60,61,62,63,64,70,71,72,73,74,75,76,77,78,79,80,81] 103 7).1) (.seq (.region (⟨_,by cbv⟩:RL [] [13,14,15,16,19,20,21,22,25,26,27,28,53,54,55,56,59,60,61,62,63,64,70,71,72,73,74,75,76,77,78,79,80,81] 103 8).1) (.seq (.region (⟨_,by cbv⟩:RL [] [13,14,15,16,19,20,21,22,25,26,27,28,53,54,55,56,59,60,61,62,63,64,70,71,72,73,74,75,76,77,78,79,80,81] 103 9).1) (.cond (x 82) (w ([o 2 (.mv (.c (.bl false)))]) (.ret)) (.skip)))))) (.region [o 83 (.bin .add .no (x 37) (i 1)),m 37 83])))))))) (lk (w ([o 2 (.mv (.c (.bl true)))]) (.ret))))))⟩
def T.qa:=t1 [] [13,14,15,16,19,20,21,22,25,26,27,28,53,54,55,56,59,60,61,62,63,64,70,71,72,73,74,75,76,77,78,79,80,81] 103 F.qa (by kernel_rfl)
def R.tv:C 91:=⟨_,by cbv⟩
def R.bF:C 89:=⟨_,by cbv⟩
def R.dK:C 41:=⟨_,by cbv⟩
def R.nK:C 18:=⟨_,by cbv⟩
def R.gC:RF Pg [16,21] [] 5:=⟨_,by cbv⟩
def F.uu:dP:=⟨130,[],.seq (.region (⟨_,by cbv⟩:RL [80] [124,125] 75 0).1) (.seq (.seq (.region (⟨_,by cbv⟩:RL [80] [124,125] 75 1).1) (.cond (x 25) (.ret) (.skip))) (.seq (.seq (.region (⟨_,by cbv⟩:RL [80] [124,125] 75 2).1) (.cond (x 29) (.seq (.region (⟨_,by cbv⟩:RL [80] [124,125] 75 3).1) (.ret)) (.skip))) (.seq (.block 0 (.loop (lk (.seq (.seq (.region (⟨_,by cbv⟩:RL [80] [124,125] 75 4).1) (.cond (x 43) (.skip) (.exit 0))) (.block 1 (.seq (.region (⟨_,by cbv⟩:RL [80] [124,125] 75 5).1) (.region (⟨_,by cbv⟩:RL [80] [124,125] 75 6).1))))))) (lk (.seq (.seq (.region (⟨_,by cbv⟩:RL [80] [124,125] 75 7).1) (.cond (x 64) (.region (⟨_,by cbv⟩:RL [80] [124,125] 75 8).1) (.skip))) (.seq (.region (⟨_,by cbv⟩:RL [80] [124,125] 75 9).1) (.seq (.region (⟨_,by cbv⟩:RL [80] [124,125] 75 10).1) (.seq (.region (⟨_,by cbv⟩:RL [80] [124,125] 75 11).1) (.cond (x 126) (.region (⟨_,by cbv⟩:RL [80] [124,125] 75 12).1) (.skip))))))))))⟩
def T.uu:=t1 [80] [124,125] 75 F.uu (by kernel_rfl)
end Go.Ab
