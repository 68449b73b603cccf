/- Functions of the program as the abstract reading has them. Written by program. No condition. -/
import Derived.Test.YtlcojgogfjlceaaGreatDoorESI
set_option maxRecDepth 100000
set_option maxHeartbeats 0
set_option linter.defProp false
noncomputable section
namespace Go.Ab
open Go.Ab.Q
def F.fy:cZ:=
 ⟨65,[.mv (x 4)],w ([o 4 (.mv (.c (.bl false)))]) (.seq (.region (⟨_,by cbv⟩:D 26 1).1) (.seq (w ([m 17 6,o 18 (.bin .neq .no (x 17) (i 0))]) (.cond (x 18) (w ([o 4 (.mv (.c (.bl false)))]) (.ret)) (.skip))) (.seq (.region (⟨_,by cbv⟩:D 26 4).1) (.seq (.regionD (⟨_,by cbv⟩:D 26 5).1 [0,1,2,3,4,5,6,7,8,9,10,11,12,13] [1,2,3,4,5,6,7,11]) (.seq (.region (⟨_,by cbv⟩:D 26 6).1) (.seq (.seq (.region (⟨_,by cbv⟩:D 26 7).1) (.cond (x 43) (w ([o 4 (.mv (.c (.bl false)))]) (.ret)) (.skip))) (.seq (.region (⟨_,by cbv⟩:D 26 9).1) (.seq (.region (⟨_,by cbv⟩:D 26 10).1) (w ([o 4 (.mv (.c (.bl true)))]) (.ret))))))))))⟩
def T.fy:= @t0 26 F.fy (by kernel_rfl)
def R.xb:C 208:=⟨_,by cbv⟩
def R.n8:C 281:=⟨_,by cbv⟩
def R.ee:C 307:=⟨_,by cbv⟩
def R.fk:C 359:=⟨_,by cbv⟩
def R.eQ:C 21:=⟨_,by cbv⟩
def R.nm:C 34:=⟨_,by cbv⟩
def R.fH:RF Pg [] [19] 40:=⟨_,by cbv⟩
def F.fj:cZ:=
 ⟨63,[.load true 148 (x 2)],.seq (.region (⟨_,by cbv⟩:D 46 0).1) (.seq (.region (⟨_,by cbv⟩:D 46 1).1) (.seq (.seq (.region (⟨_,by cbv⟩:D 46 2).1) (.block 0 (.loop (lk (w ([o 15 (.bin .lss .no (x 14) (x 13))]) (.seq (.cond (x 15) (.skip) (.exit 0)) (.seq (.block 1 (w ([m 16 14,m 3 16]) (w ([o 4 (.mv (.c (.sl 1 [] true)))]) (.seq (.seq (.region (⟨_,by cbv⟩:D 46 6).1) (.block 2 (.loop (lk (w ([o 25 (.bin .lss .no (x 24) (x 23))]) (.seq (.cond (x 25) (.skip) (.exit 2)) (.seq (.block 3 (.seq (.region (⟨_,by cbv⟩:D 46 8).1) (.region (⟨_,by cbv⟩:D 46 9).1))) (.region [o 34 (.bin .add .no (x 24) (i 1)),m 24 34])))))))) (lk (.region (⟨_,by cbv⟩:D 46 11).1)))))) (lk (.region [o 41 (.bin .add .no (x 14) (i 1)),m 14 41]))))))))) (lk (.seq (.regionD (⟨_,by cbv⟩:D 46 13).1 [0,1,3,4,2,6,5,7,8,9] [3,4,6,2,5]) (.seq (.regionD (⟨_,by cbv⟩:D 46 14).1 [0,1,3,4,2,6,5,7,8,9] [3,4,6,2,5]) (.seq (.region (⟨_,by cbv⟩:D 46 15).1) (w ([o 62 (.load true 148 (x 1)),s 148 2 62]) (.ret))))))))⟩
def T.fj:= @t0 46 F.fj (by kernel_rfl)
def R.oW:C 263:=⟨_,by cbv⟩
def F.bR:cZ:=
 ⟨53,[],.seq (.region (⟨_,by cbv⟩:RL [] [33,31,26] 270 0).1) (.block 0 (.loop (lk (.seq (.seq (.region (⟨_,by cbv⟩:RL [] [33,31,26] 270 1).1) (.cond (x 14) (.skip) (.exit 0))) (.seq (.block 1 (w ([m 17 8,m 9 17]) (.block 2 (.loop (lk (.seq (.seq (.region (⟨_,by cbv⟩:RL [] [33,31,26] 270 3).1) (.cond (x 34) (.skip) (.exit 2))) (.seq (.block 3 (.regionD (⟨_,by cbv⟩:RL [] [33,31,26] 270 4).1 [0,1,2,3,4,5,6,7,8,9,10,11,12,13,14,15,16,17] [])) (.region (⟨_,by cbv⟩:RL [] [33,31,26] 270 5).1)))))))) (lk (.region (⟨_,by cbv⟩:RL [] [33,31,26] 270 6).1)))))))⟩
def T.bR:=t1 [] [33,31,26] 270 F.bR (by kernel_rfl)
def F.fW:cZ:=
 ⟨102,[.load true 148 (x 8),.mv (x 9)],.seq (.region (⟨_,by cbv⟩:D 22 0).1) (.seq (.seq (.region (⟨_,by cbv⟩:D 22 1).1) (.cond (x 18) (.seq (.region (⟨_,by cbv⟩:D 22 2).1) (.ret)) (.skip))) (.seq (.region (⟨_,by cbv⟩:D 22 3).1) (.seq (w ([m 23 10,o 24 (.bin .lss .no (x 23) (i 0))]) (.cond (x 24) (.seq (.region (⟨_,by cbv⟩:D 22 5).1) (.ret)) (.skip))) (.seq (.seq (.region (⟨_,by cbv⟩:D 22 6).1) (.seq (.region (⟨_,by cbv⟩:D 22 7).1) (.cond (x 39) (.seq (.region (⟨_,by cbv⟩:D 22 8).1) (.ret)) (.skip)))) (.seq (.seq (.region (⟨_,by cbv⟩:D 22 9).1) (.cond (x 44) (.seq (.region (⟨_,by cbv⟩:D 22 10).1) (.ret)) (.skip))) (.seq (.region (⟨_,by cbv⟩:D 22 11).1) (.seq (.region (⟨_,by cbv⟩:D 22 12).1) (w ([o 15 (.mv (.c (.sl 1 [] true)))]) (.seq (w ([m 54 3]) (.cond (x 54) (.region (⟨_,by cbv⟩:D 22 15).1) (.region (⟨_,by cbv⟩:D 22 16).1))) (.seq (.region (⟨_,by cbv⟩:D 22 17).1) (.seq (.region (⟨_,by cbv⟩:D 22 18).1) (.seq (.region (⟨_,by cbv⟩:D 22 19).1) (.seq (.region (⟨_,by cbv⟩:D 22 20).1) (.ret))))))))))))))⟩
def T.fW:= @t0 22 F.fW (by kernel_rfl)
def F.jx:cZ:=
 ⟨105,[.load true 5 (x 4)],.seq (.region (⟨_,by cbv⟩:D 264 0).1) (w ([u 5 (.alloc (.ar 2 5 (zr 5 (.st 2 [z8,z8]))))]) (.seq (w ([o 14 (.load true 5 (x 2)),o 15 (.mv (i 0))]) (.block 0 (.loop (lk (w ([o 16 (.bin .lss .no (x 15) (i 5))]) (.seq (.cond (x 16) (.skip) (.exit 0)) (.seq (.block 1 (.seq (.region (⟨_,by cbv⟩:D 264 4).1) (w ([o 19 (.load true 5 (x 3)),o 20 (.mv (i 0))]) (.block 2 (.loop (lk (w ([o 21 (.bin .lss .no (x 20) (i 5))]) (.seq (.cond (x 21) (.skip) (.exit 2)) (.seq (.block 3 (.seq (.region (⟨_,by cbv⟩:D 264 7).1) (.seq (.region (⟨_,by cbv⟩:D 264 8).1) (.cond (x 27) (.region (⟨_,by cbv⟩:D 264 9).1) (.region (⟨_,by cbv⟩:D 264 10).1))))) (.region [o 55 (.bin .add .no (x 20) (i 1)),m 20 55])))))))))) (lk (.region [o 56 (.bin .add .no (x 15) (i 1)),m 15 56]))))))))) (lk (.seq (.region (⟨_,by cbv⟩:D 264 13).1) (.seq (w ([o 57 (.load true 10 (x 5)),o 58 (.mv (i 0))]) (.block 4 (.loop (lk (w ([o 59 (.bin .lss .no (x 58) (i 5))]) (.seq (.cond (x 59) (.skip) (.exit 4)) (.seq (.block 5 (.seq (.region (⟨_,by cbv⟩:D 264 16).1) (.regionD (⟨_,by cbv⟩:D 264 17).1 [0,1,2,3,4,5,6,7,8,9,10,11,12,13,14,15] [5,6,8,9,13]))) (.region [o 76 (.bin .add .no (x 58) (i 1)),m 58 76])))))))) (lk (.seq (.region (⟨_,by cbv⟩:D 264 19).1) (.ret))))))))⟩
def T.jx:= @t0 264 F.jx (by kernel_rfl)
def R.lX:C 60:=⟨_,by cbv⟩
def R.eN:RF Pg [9] [] 84:=⟨_,by cbv⟩
def R.dt:C 96:=⟨_,by cbv⟩
def F.fS:cZ:=
 ⟨25,[],.regionD (⟨_,by cbv⟩:D 144 0).1 [0,1,2,3,4,5,6,7,8,9,10,11,12,13,14,15,16,17,18,19] []⟩
def T.fS:= @t0 144 F.fS (by kernel_rfl)
def F.cQ:cZ:=
 ⟨148,[],w ([o 10 (.mv (.c (.bl true)))]) (w ([o 11 (.mv (.c (.bl true)))]) (.block 0 (.loop (lk (.block 1 (.seq (.region (⟨_,by cbv⟩:RL [] [96,95,93,89] 180 2).1) (.seq (w ([m 24 12,o 25 (.bin .leq .no (x 24) (i 12))]) (.cond (x 25) (.seq (.region (⟨_,by cbv⟩:RL [] [96,95,93,89] 180 4).1) (.ret)) (.skip))) (.seq (w ([m 31 3,o 32 (.bin .eql .no (x 31) (i 0))]) (.cond (x 32) (.seq (.region (⟨_,by cbv⟩:RL [] [96,95,93,89] 180 6).1) (.ret)) (.skip))) (.seq (w ([m 38 10,o 39 (.un .not (x 38))]) (.cond (x 39) (.seq (.region (⟨_,by cbv⟩:RL [] [96,95,93,89] 180 8).1) (.region (⟨_,by cbv⟩:RL [] [96,95,93,89] 180 9).1)) (.skip))) (.seq (.region (⟨_,by cbv⟩:RL [] [96,95,93,89] 180 10).1) (.seq (w ([m 55 14,o 56 (.bin .eql .no (x 55) (i 2))]) (.cond (x 56) (.seq (.region (⟨_,by cbv⟩:RL [] [96,95,93,89] 180 12).1) (.seq (.region (⟨_,by cbv⟩:RL [] [96,95,93,89] 180 13).1) (.region [o 14 (.mv (i 1))]))) (.skip))) (.seq (.seq (.region (⟨_,by cbv⟩:RL [] [96,95,93,89] 180 15).1) (.cond (x 75) (.seq (.region (⟨_,by cbv⟩:RL [] [96,95,93,89] 180 16).1) (.cond (x 80) (.ret) (.skip))) (.skip))) (.seq (.seq (.region (⟨_,by cbv⟩:RL [] [96,95,93,89] 180 17).1) (.cond (x 97) (.seq (.region (⟨_,by cbv⟩:RL [] [96,95,93,89] 180 18).1) (w ([m 104 15,m 1 104]) (.exit 1))) (.skip))) (.seq (.region (⟨_,by cbv⟩:RL [] [96,95,93,89] 180 20).1) (w ([m 114 17,m 11 114]) (.seq (.region (⟨_,by cbv⟩:RL [] [96,95,93,89] 180 22).1) (.seq (.region (⟨_,by cbv⟩:RL [] [96,95,93,89] 180 23).1) (.seq (.region (⟨_,by cbv⟩:RL [] [96,95,93,89] 180 24).1) (.cond (x 125) (.seq (.region (⟨_,by cbv⟩:RL [] [96,95,93,89] 180 25).1) (.seq (.region (⟨_,by cbv⟩:RL [] [96,95,93,89] 180 26).1) (.region (⟨_,by cbv⟩:RL [] [96,95,93,89] 180 27).1))) (.seq (.region (⟨_,by cbv⟩:RL [] [96,95,93,89] 180 28).1) (.seq (.region (⟨_,by cbv⟩:RL [] [96,95,93,89] 180 29).1) (.region [m 147 16,m 2 147]))))))))))))))))))))))⟩
def T.cQ:=t1 [] [96,95,93,89] 180 F.cQ (by kernel_rfl)
def R.rR:C 181:=⟨_,by cbv⟩
def R.oE:C 260:=⟨_,by cbv⟩
def R.gD:C 285:=⟨_,by cbv⟩
def R.tn:C 311:=⟨_,by cbv⟩
def R.lr:C 330:=⟨_,by cbv⟩
def R.kG:RF Pg [6] [] 13:=⟨_,by cbv⟩
def F.bD:cZ:=
 ⟨67,[.mv (x 6),.mv (x 7)],.seq (.region (⟨_,by cbv⟩:RL [61] [50,48,47] 19 0).1) (.seq (.seq (.region (⟨_,by cbv⟩:RL [61] [50,48,47] 19 1).1) (.cond (x 13) (w ([o 6 (.mv (.c (.sl 50 [] true))),o 7 (.mv (i 1))]) (.ret)) (.skip))) (.seq (.region (⟨_,by cbv⟩:RL [61] [50,48,47] 19 3).1) (.seq (.seq (.region (⟨_,by cbv⟩:RL [61] [50,48,47] 19 4).1) (.block 0 (.loop (lk (w ([o 19 (.bin .lss .no (x 18) (x 17))]) (.seq (.cond (x 19) (.skip) (.exit 0)) (.seq (.block 1 (w ([m 20 18,m 9 20]) (.seq (.region (⟨_,by cbv⟩:RL [61] [50,48,47] 19 7).1) (.cond (x 27) (.seq (.region (⟨_,by cbv⟩:RL [61] [50,48,47] 19 8).1) (.seq (.region (⟨_,by cbv⟩:RL [61] [50,48,47] 19 9).1) (.ret))) (.skip))))) (.region [o 34 (.bin .add .no (x 18) (i 1)),m 18 34])))))))) (lk (.seq (.seq (.region (⟨_,by cbv⟩:RL [61] [50,48,47] 19 11).1) (.cond (x 37) (w ([o 6 (.mv (.c (.sl 50 [] true))),o 7 (.mv (i 12))]) (.ret)) (.skip))) (w ([o 10 (.mv (i 0))]) (.seq (.block 2 (.loop (lk (.seq (.seq (.region (⟨_,by cbv⟩:RL [61] [50,48,47] 19 14).1) (.cond (x 51) (.skip) (.exit 2))) (.block 3 (.region (⟨_,by cbv⟩:RL [61] [50,48,47] 19 15).1)))))) (lk (.seq (.regionD (⟨_,by cbv⟩:RL [61] [50,48,47] 19 16).1 [0,1,2,3,4,5,6,8,9,10,7,11,12,13,14] [3,10,7,11]) (.ret))))))))))⟩
def T.bD:=t1 [61] [50,48,47] 19 F.bD (by kernel_rfl)
def R.tt:C 110:=⟨_,by cbv⟩
def R.gv:C 164:=⟨_,by cbv⟩
def R.qo:C 195:=⟨_,by cbv⟩
def R.dx:C 207:=⟨_,by cbv⟩
def R.tv:C 255:=⟨_,by cbv⟩
def F.dZ:cZ:=
 ⟨68,[.mv (x 2)],w ([o 2 (.mv (.c (.bl false)))]) (.seq (.seq (.region (⟨_,by cbv⟩:RL [] [18,19,20,23,24,25,28,29,30,36,37,38,39,40,41,42,43,44,60,61,62,63,64] 286 1).1) (.block 0 (.loop (lk (w ([o 10 (.bin .lss .no (x 9) (x 8))]) (.seq (.cond (x 10) (.skip) (.exit 0)) (.seq (.block 1 (.seq (.region (⟨_,by cbv⟩:RL [] [18,19,20,23,24,25,28,29,30,36,37,38,39,40,41,42,43,44,60,61,62,63,64] 286 3).1) (.seq (.seq (.region (⟨_,by cbv⟩:RL [] [18,19,20,23,24,25,28,29,30,36,37,38,39,40,41,42,43,44,60,61,62,63,64] 286 4).1) (.cond (x 45) (w ([o 2 (.mv (.c (.bl false)))]) (.ret)) (.skip))) (.seq (.region (⟨_,by cbv⟩:RL [] [18,19,20,23,24,25,28,29,30,36,37,38,39,40,41,42,43,44,60,61,62,63,64] 286 6).1) (.block 2 (.loop (lk (w ([o 51 (.bin .lss .no (x 50) (x 49))]) (.seq (.cond (x 51) (.skip) (.exit 2)) (.seq (.block 3 (.seq (.region (⟨_,by cbv⟩:RL [] [18,19,20,23,24,25,28,29,30,36,37,38,39,40,41,42,43,44,60,61,62,63,64] 286 8).1) (.seq (.region (⟨_,by cbv⟩:RL [] [18,19,20,23,24,25,28,29,30,36,37,38,39,40,41,42,43,44,60,61,62,63,64] 286 9).1) (.cond (x 65) (w ([o 2 (.mv (.c (.bl false)))]) (.ret)) (.skip))))) (.region [o 66 (.bin .add .no (x 50) (i 1)),m 50 66]))))))))))) (lk (.region [o 67 (.bin .add .no (x 9) (i 1)),m 9 67]))))))))) (lk (w ([o 2 (.mv (.c (.bl true)))]) (.ret))))⟩
def T.dZ:=t1 [] [18,19,20,23,24,25,28,29,30,36,37,38,39,40,41,42,43,44,60,61,62,63,64] 286 F.dZ (by kernel_rfl)
def R.vo:RF Pg [23] [] 269:=⟨_,by cbv⟩
def R.sha:C 230:=⟨_,by cbv⟩
def F.ZR:cZ:=⟨26,[.load true 32 (x 6)],.seq (.region (⟨_,by cbv⟩:RL [17,18,1003007] [] 223 0).1) (.seq (.regionE (⟨_,by cbv⟩:RL [17,18,1003007] [] 223 1).1 [0,1,2,4,5,6] 3 7 [8,9,10,11,12,13,14,15] [1,2,7]) (.seq (.region (⟨_,by cbv⟩:RL [17,18,1003007] [] 223 2).1) (w ([o 25 (.load true 32 (x 8)),s 32 6 25]) (.ret))))⟩
def T.ZR:=t1 [17,18,1003007] [] 223 F.ZR (by kernel_rfl)
def F.SJ:cZ:=⟨39,[],.seq (.region (⟨_,by cbv⟩:RL [] [33,34] 112 0).1) (.cond (x 35) (.region (⟨_,by cbv⟩:RL [] [33,34] 112 1).1) (.skip))⟩
def T.SJ:=t1 [] [33,34] 112 F.SJ (by kernel_rfl)
def R.Nq:C 157:=⟨_,by cbv⟩
end Go.Ab
