/- Functions of the program as the abstract reading has them. Written by program. No condition. -/
import Derived.Test.YtlcojgogfjlceaaGreatDoorSI
set_option maxRecDepth 100000
set_option maxHeartbeats 0
set_option linter.defProp false
noncomputable section
namespace Go.Ab
open Go.Ab.Q
def R.nz:C 33:=⟨_,by cbv⟩
def F.eu:cM:=
 ⟨36,[],.region (⟨_,by cbv⟩:D 51 0).1⟩
def T.eu:= @t0 51 F.eu (by kernel_rfl)
def R.eI:C 87:=⟨_,by cbv⟩
def R.vq:C 117:=⟨_,by cbv⟩
def R.dE:C 171:=⟨_,by cbv⟩
def R.aY:C 256:=⟨_,by cbv⟩
def R.qO:C 314:=⟨_,by cbv⟩
def F.eU:cM:=
 ⟨52,[.mv (x 2)],w ([u 1 (.box (x 0)),o 2 (.mv (.c (.str [])))]) (.seq (.seq (.region (⟨_,by cbv⟩:D 367 1).1) (.cond (x 8) (w ([o 2 (.mv (.c (.str [])))]) (.ret)) (.skip))) (w ([o 3 (.mv (.c (.str [])))]) (.seq (.seq (.region (⟨_,by cbv⟩:D 367 4).1) (.cond (x 11) (.seq (w ([o 4 (.mv (i 0))]) (.block 0 (.loop (lk (.seq (w ([m 12 4,o 13 (.bin .lss .no (x 12) (i 4))]) (.cond (x 13) (.skip) (.exit 0))) (.seq (.block 1 (.region (⟨_,by cbv⟩:D 367 7).1)) (.region (⟨_,by cbv⟩:D 367 8).1))))))) (lk (.seq (.region (⟨_,by cbv⟩:D 367 9).1) (.ret)))) (.skip))) (lk (.seq (w ([o 5 (.mv (i 0))]) (.block 2 (.loop (lk (.seq (w ([m 27 5,o 28 (.bin .lss .no (x 27) (i 8))]) (.cond (x 28) (.skip) (.exit 2))) (.seq (.block 3 (.region (⟨_,by cbv⟩:D 367 12).1)) (.region (⟨_,by cbv⟩:D 367 13).1))))))) (lk (.seq (.region (⟨_,by cbv⟩:D 367 14).1) (.ret))))))))⟩
def T.eU:= @t0 367 F.eU (by kernel_rfl)
def R.nG:RF Pg [] [24,18,12] 94:=⟨_,by cbv⟩
def F.ie:cM:=
 ⟨51,[.mv (x 2)],w ([u 1 (.box (x 0)),o 2 (.mv (.c (.str [])))]) (.seq (.seq (.region (⟨_,by cbv⟩:D 118 1).1) (.cond (x 8) (w ([o 2 (.mv (.c (.str [])))]) (.ret)) (.skip))) (w ([o 3 (.mv (.c (.sl 1 [] true)))]) (.seq (w ([f 9 0 0 1,l 10 9]) (.cond (x 10) (.seq (w ([o 11 (.mv (i 0))]) (.block 0 (.loop (lk (w ([o 12 (.bin .lss .no (x 11) (i 8))]) (.seq (.cond (x 12) (.skip) (.exit 0)) (.seq (.block 1 (w ([m 13 11,m 4 13]) (.region (⟨_,by cbv⟩:D 118 8).1))) (.region [o 33 (.bin .add .no (x 11) (i 1)),m 11 33])))))))) (lk (.seq (.region (⟨_,by cbv⟩:D 118 10).1) (.ret)))) (.skip))) (lk (.seq (w ([o 36 (.mv (i 0))]) (.block 2 (.loop (lk (w ([o 37 (.bin .lss .no (x 36) (i 4))]) (.seq (.cond (x 37) (.skip) (.exit 2)) (.seq (.block 3 (w ([m 38 36,m 5 38]) (.region (⟨_,by cbv⟩:D 118 14).1))) (.region [o 48 (.bin .add .no (x 36) (i 1)),m 36 48])))))))) (lk (.seq (.region (⟨_,by cbv⟩:D 118 16).1) (.ret))))))))⟩
def T.ie:= @t0 118 F.ie (by kernel_rfl)
def R.iM:C 382:=⟨_,by cbv⟩
def R.gZ:C 16:=⟨_,by cbv⟩
def R.fy:C 41:=⟨_,by cbv⟩
def R.sf:C 59:=⟨_,by cbv⟩
def R.jo:C 83:=⟨_,by cbv⟩
def R.jL:C 137:=⟨_,by cbv⟩
def R.aW:C 167:=⟨_,by cbv⟩
def R.oj:RF Pg [] [17,18,19,20,26,27,28,29,30,36,37,38,39,40] 186:=⟨_,by cbv⟩
def R.bq:C 228:=⟨_,by cbv⟩
def R.ud:C 309:=⟨_,by cbv⟩
def R.du:C 328:=⟨_,by cbv⟩
def F.oM:cM:=
 ⟨92,[.load true 16 (x 2)],w ([u 1 (.box (x 0)),u 2 (.alloc (.ar 1 16 (zr 16 (.int .u32 0))))]) (.seq (.region (⟨_,by cbv⟩:D 377 1).1) (.seq (w ([o 10 (.mv (i 0))]) (.block 0 (.loop (lk (w ([o 11 (.bin .lss .no (x 10) (i 10))]) (.seq (.cond (x 11) (.skip) (.exit 0)) (.seq (.block 1 (.seq (w ([o 12 (.mv (i 0))]) (.block 2 (.loop (lk (w ([o 13 (.bin .lss .no (x 12) (i 4))]) (.seq (.cond (x 13) (.skip) (.exit 2)) (.seq (.block 3 (w ([m 14 12,m 4 14]) (.regionD (⟨_,by cbv⟩:D 377 7).1 [0,1,2,3,4,5,6,7,8,9,10,11,12,13,14,15,16,17,18,19,20,21,22,23,24,25,26,27,28,29,30,31,32,33,34,35] []))) (.region [o 47 (.bin .add .no (x 12) (i 1)),m 12 47])))))))) (lk (w ([o 48 (.mv (i 0))]) (.block 4 (.loop (lk (w ([o 49 (.bin .lss .no (x 48) (i 4))]) (.seq (.cond (x 49) (.skip) (.exit 4)) (.seq (.block 5 (w ([m 50 48,m 5 50]) (.seq (.region (⟨_,by cbv⟩:D 377 12).1) (.region (⟨_,by cbv⟩:D 377 13).1)))) (.region [o 89 (.bin .add .no (x 48) (i 1)),m 48 89]))))))))))) (lk (.region [o 90 (.bin .add .no (x 10) (i 1)),m 10 90]))))))))) (lk (w ([o 91 (.load true 16 (x 3)),s 16 2 91]) (.ret)))))⟩
def T.oM:= @t0 377 F.oM (by kernel_rfl)
def R.dV:C 108:=⟨_,by cbv⟩
def R.nv:C 168:=⟨_,by cbv⟩
def R.mi:C 187:=⟨_,by cbv⟩
def R.pL:C 199:=⟨_,by cbv⟩
def R.dW:C 259:=⟨_,by cbv⟩
def R.pk:C 329:=⟨_,by cbv⟩
def F.vz:cM:=
 ⟨67,[.load true 16 (x 4)],w ([u 2 (.box (x 0)),u 4 (.alloc Wt)]) (.seq (.region (⟨_,by cbv⟩:RL [34,36,42,52,54] [] 356 1).1) (.seq (.region (⟨_,by cbv⟩:RL [34,36,42,52,54] [] 356 2).1) (w ([u 7 (.alloc (.ar 1 3 (zr 3 z8)))]) (.seq (.block 0 (.loop (lk (.seq (.seq (.region (⟨_,by cbv⟩:RL [34,36,42,52,54] [] 356 4).1) (.cond (x 18) (.skip) (.exit 0))) (.block 1 (.seq (.region (⟨_,by cbv⟩:RL [34,36,42,52,54] [] 356 5).1) (w ([u 9 (.alloc (.ar 1 24 (zr 24 (.int .u8 0))))]) (.seq (.region (⟨_,by cbv⟩:RL [34,36,42,52,54] [] 356 7).1) (.seq (.region (⟨_,by cbv⟩:RL [34,36,42,52,54] [] 356 8).1) (.seq (.region (⟨_,by cbv⟩:RL [34,36,42,52,54] [] 356 9).1) (.seq (.regionD (⟨_,by cbv⟩:RL [34,36,42,52,54] [] 356 10).1 [0,1,3,2,4,5,6,7] [0,3,2,4]) (.seq (.regionD (⟨_,by cbv⟩:RL [34,36,42,52,54] [] 356 11).1 [0,1,2,3,4,5,6] [0,1,3]) (.region (⟨_,by cbv⟩:RL [34,36,42,52,54] [] 356 12).1))))))))))))) (lk (.seq (.regionD (⟨_,by cbv⟩:RL [34,36,42,52,54] [] 356 13).1 [0,1,2,4,3,5,6,7,8] [4,3]) (.seq (.region (⟨_,by cbv⟩:RL [34,36,42,52,54] [] 356 14).1) (.ret))))))))⟩
def T.vz:=t1 [34,36,42,52,54] [] 356 F.vz (by kernel_rfl)
def R.xv:C 61:=⟨_,by cbv⟩
def R.r9:C 85:=⟨_,by cbv⟩
def R.fR:C 97:=⟨_,by cbv⟩
def F.ir:cM:=
 ⟨116,[.mv (x 2)],w ([u 1 (.box (x 0)),o 2 (.mv (.c (.bl false)))]) (.seq (.seq (.region (⟨_,by cbv⟩:D 188 1).1) (.cond (x 20) (w ([o 2 (.mv (.c (.bl false)))]) (.ret)) (.skip))) (w ([o 3 (.mv (i 0))]) (.seq (.seq (.region (⟨_,by cbv⟩:D 188 4).1) (.block 0 (.loop (lk (w ([o 25 (.bin .lss .no (x 24) (x 23))]) (.seq (.cond (x 25) (.skip) (.exit 0)) (.seq (.block 1 (.seq (.region (⟨_,by cbv⟩:D 188 6).1) (.seq (.seq (.region (⟨_,by cbv⟩:D 188 7).1) (.cond (x 30) (.seq (.region (⟨_,by cbv⟩:D 188 8).1) (.seq (.seq (.region (⟨_,by cbv⟩:D 188 9).1) (.cond (x 52) (w ([o 2 (.mv (.c (.bl false)))]) (.ret)) (.skip))) (.region (⟨_,by cbv⟩:D 188 11).1))) (.skip))) (.seq (.seq (.region (⟨_,by cbv⟩:D 188 12).1) (.block 2 (.loop (lk (w ([o 60 (.bin .lss .no (x 59) (x 58))]) (.seq (.cond (x 60) (.skip) (.exit 2)) (.seq (.block 3 (.seq (.region (⟨_,by cbv⟩:D 188 14).1) (.seq (.region (⟨_,by cbv⟩:D 188 15).1) (.seq (.seq (.region (⟨_,by cbv⟩:D 188 16).1) (.cond (x 83) (w ([o 2 (.mv (.c (.bl false)))]) (.ret)) (.skip))) (.region (⟨_,by cbv⟩:D 188 18).1))))) (.region [o 86 (.bin .add .no (x 59) (i 1)),m 59 86])))))))) (lk (.seq (.region (⟨_,by cbv⟩:D 188 20).1) (.seq (.region (⟨_,by cbv⟩:D 188 21).1) (.block 4 (.loop (lk (w ([o 93 (.bin .lss .no (x 92) (x 91))]) (.seq (.cond (x 93) (.skip) (.exit 4)) (.seq (.block 5 (.seq (.region (⟨_,by cbv⟩:D 188 23).1) (.seq (.region (⟨_,by cbv⟩:D 188 24).1) (.block 6 (.loop (lk (w ([o 102 (.bin .lss .no (x 101) (x 100))]) (.seq (.cond (x 102) (.skip) (.exit 6)) (.seq (.block 7 (.seq (.region (⟨_,by cbv⟩:D 188 26).1) (.seq (.region (⟨_,by cbv⟩:D 188 27).1) (.cond (x 107) (w ([o 2 (.mv (.c (.bl false)))]) (.ret)) (.skip))))) (.region [o 108 (.bin .add .no (x 101) (i 1)),m 101 108])))))))))) (lk (.region [o 109 (.bin .add .no (x 92) (i 1)),m 92 109]))))))))))))))) (lk (.region [o 110 (.bin .add .no (x 24) (i 1)),m 24 110]))))))))) (lk (.seq (.region (⟨_,by cbv⟩:D 188 32).1) (.ret))))))⟩
def T.ir:= @t0 188 F.ir (by kernel_rfl)
def R.oe:RF Pg [] [43,41,40] 50:=⟨_,by cbv⟩
def R.nC:RF Pg [17,18] [] 80:=⟨_,by cbv⟩
def R.jC:C 92:=⟨_,by cbv⟩
def R.kM:C 98:=⟨_,by cbv⟩
def R.jm:RF Pg [19] [] 158:=⟨_,by cbv⟩
def F.gM:cM:=
 ⟨64,[.mv (x 2)],w ([u 1 (.box (x 0)),o 2 (.mv (.c (.bl false)))]) (.seq (.seq (.region (⟨_,by cbv⟩:RL [] [29,30,37,38,39,40,41,42,43,44] 189 1).1) (.cond (x 11) (w ([o 2 (.mv (.c (.bl false)))]) (.ret)) (.skip))) (.seq (.seq (.region (⟨_,by cbv⟩:RL [] [29,30,37,38,39,40,41,42,43,44] 189 3).1) (.block 0 (.loop (lk (w ([o 16 (.bin .lss .no (x 15) (x 14))]) (.seq (.cond (x 16) (.skip) (.exit 0)) (.seq (.block 1 (.seq (.region (⟨_,by cbv⟩:RL [] [29,30,37,38,39,40,41,42,43,44] 189 5).1) (.seq (.region (⟨_,by cbv⟩:RL [] [29,30,37,38,39,40,41,42,43,44] 189 6).1) (.seq (.region (⟨_,by cbv⟩:RL [] [29,30,37,38,39,40,41,42,43,44] 189 7).1) (.cond (x 45) (w ([o 2 (.mv (.c (.bl false)))]) (.ret)) (.skip)))))) (.region [o 46 (.bin .add .no (x 15) (i 1)),m 15 46])))))))) (lk (.seq (.seq (.region (⟨_,by cbv⟩:RL [] [29,30,37,38,39,40,41,42,43,44] 189 10).1) (.block 2 (.loop (lk (w ([o 51 (.bin .lss .no (x 50) (x 49))]) (.seq (.cond (x 51) (.skip) (.exit 2)) (.seq (.block 3 (.seq (.region (⟨_,by cbv⟩:RL [] [29,30,37,38,39,40,41,42,43,44] 189 12).1) (.seq (.region (⟨_,by cbv⟩:RL [] [29,30,37,38,39,40,41,42,43,44] 189 13).1) (.cond (x 62) (w ([o 2 (.mv (.c (.bl false)))]) (.ret)) (.skip))))) (.region [o 63 (.bin .add .no (x 50) (i 1)),m 50 63])))))))) (lk (w ([o 2 (.mv (.c (.bl true)))]) (.ret)))))))⟩
def T.gM:=t1 [] [29,30,37,38,39,40,41,42,43,44] 189 F.gM (by kernel_rfl)
def R.oo:C 162:=⟨_,by cbv⟩
def R.iY:C 79:=⟨_,by cbv⟩
def R.Od:RF Pg [18] [] 317:=⟨_,by cbv⟩
def R.sch:C 229:=⟨_,by cbv⟩
def F.sse:cM:=⟨24,[.mv (x 6)],w ([u 4 (.box (x 1)),o 6 (.mv (.c (.sl 1 [] true)))]) (.seq (.regionD (⟨_,by cbv⟩:RL [16] [] 232 1).1 [0,1,2,3,4,5,6,7,8,9,10,11,12] [1,2,3,4,10]) (.seq (.region (⟨_,by cbv⟩:RL [16] [] 232 2).1) (w ([m 23 8,m 6 23]) (.ret))))⟩
def T.sse:=t1 [16] [] 232 F.sse (by kernel_rfl)
def F.Dq:cM:=⟨151,[],.seq (.region (⟨_,by cbv⟩:RL [44,103,147,1004006] [] 196 0).1) (.seq (.seq (.region (⟨_,by cbv⟩:RL [44,103,147,1004006] [] 196 1).1) (.cond (x 23) (.seq (.region (⟨_,by cbv⟩:RL [44,103,147,1004006] [] 196 2).1) (.region (⟨_,by cbv⟩:RL [44,103,147,1004006] [] 196 3).1)) (.skip))) (.seq (.regionE (⟨_,by cbv⟩:RL [44,103,147,1004006] [] 196 4).1 [0,1,2,3,5,7,8,9,10] 4 6 [11,12,13,14,15,16,17,18] [1,2,3,8,9,10,6]) (.seq (.region (⟨_,by cbv⟩:RL [44,103,147,1004006] [] 196 5).1) (.seq (.regionD (⟨_,by cbv⟩:RL [44,103,147,1004006] [] 196 6).1 [0,1,2,3,4,5,6,7,8,9,10,11,12,13,14,15,16,17,18,19,20,21,22,23,24,25,26] [1,2,3,4,6,7,8,9,11,12,13,14,15,17,22,23]) (.seq (.seq (.region (⟨_,by cbv⟩:RL [44,103,147,1004006] [] 196 7).1) (.cond (x 82) (.seq (.region (⟨_,by cbv⟩:RL [44,103,147,1004006] [] 196 8).1) (.seq (.region (⟨_,by cbv⟩:RL [44,103,147,1004006] [] 196 9).1) (.ret))) (.skip))) (.seq (.region (⟨_,by cbv⟩:RL [44,103,147,1004006] [] 196 10).1) (.seq (.regionD (⟨_,by cbv⟩:RL [44,103,147,1004006] [] 196 11).1 [0,1,2,3,4,5,7,8,9,10,11,6,12,13,14,15,16,17,18] [1,2,3,8,9,10,11,12,6,16]) (.seq (.region (⟨_,by cbv⟩:RL [44,103,147,1004006] [] 196 12).1) (.seq (.region (⟨_,by cbv⟩:RL [44,103,147,1004006] [] 196 13).1) (.seq (.region (⟨_,by cbv⟩:RL [44,103,147,1004006] [] 196 14).1) (.seq (.region (⟨_,by cbv⟩:RL [44,103,147,1004006] [] 196 15).1) (.region (⟨_,by cbv⟩:RL [44,103,147,1004006] [] 196 16).1))))))))))))⟩
def T.Dq:=t1 [44,103,147,1004006] [] 196 F.Dq (by kernel_rfl)
end Go.Ab
