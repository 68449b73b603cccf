/- Functions of the program as the abstract reading has them. Written by program. No condition. -/
import Derived.Test.YtlcojgogfjlceaaGreatDoorSI
set_option maxRecDepth 100000
set_option maxHeartbeats 0
set_option linter.defProp false
noncomputable section
namespace Go.Ab
open Go.Ab.Q
def F.fu:cM:=
 ⟨98,[.mv (x 4)],.seq (.region (⟨_,by cbv⟩:D 8 0).1) (.seq (.seq (.region (⟨_,by cbv⟩:D 8 1).1) (.cond (x 75) (w ([o 4 (.mv (.c (.bl false)))]) (.ret)) (.skip))) (.seq (.seq (.region (⟨_,by cbv⟩:D 8 3).1) (.block 0 (.loop (lk (w ([o 80 (.bin .lss .no (x 79) (x 78))]) (.seq (.cond (x 80) (.skip) (.exit 0)) (.seq (.block 1 (w ([m 81 79,m 5 81]) (.seq (.region (⟨_,by cbv⟩:D 8 6).1) (.cond (x 93) (w ([o 4 (.mv (.c (.bl false)))]) (.ret)) (.skip))))) (.region [o 94 (.bin .add .no (x 79) (i 1)),m 79 94])))))))) (lk (.seq (.region (⟨_,by cbv⟩:D 8 9).1) (.ret)))))⟩
def T.fu:= @t0 8 F.fu (by kernel_rfl)
def R.mh:C 184:=⟨_,by cbv⟩
def R.pd:C 262:=⟨_,by cbv⟩
def R.rW:RF Pg [5] [] 300:=⟨_,by cbv⟩
def R.jS:C 353:=⟨_,by cbv⟩
def R.qM:C 389:=⟨_,by cbv⟩
def R.jP:C 15:=⟨_,by cbv⟩
def F.gf:cM:=
 ⟨93,[.mv (x 4)],w ([o 4 (.mv (.c (.bl false)))]) (.seq (.seq (.region (⟨_,by cbv⟩:RL [77,1003007] [] 28 1).1) (.cond (x 30) (w ([o 4 (.mv (.c (.bl false)))]) (.ret)) (.skip))) (.seq (.region (⟨_,by cbv⟩:RL [77,1003007] [] 28 3).1) (.seq (.block 0 (.loop (lk (.block 1 (.seq (.region (⟨_,by cbv⟩:RL [77,1003007] [] 28 4).1) (.seq (w ([m 42 7,o 43 (.un .not (x 42))]) (.cond (x 43) (.exit 0) (.skip))) (.seq (.region (⟨_,by cbv⟩:RL [77,1003007] [] 28 6).1) (.seq (.region (⟨_,by cbv⟩:RL [77,1003007] [] 28 7).1) (.seq (.regionE (⟨_,by cbv⟩:RL [77,1003007] [] 28 8).1 [0,1,2,4,5,6] 3 7 [8,9] [5,6,3,1,2,7]) (.seq (.region (⟨_,by cbv⟩:RL [77,1003007] [] 28 9).1) (.cond (x 83) (.region (⟨_,by cbv⟩:RL [77,1003007] [] 28 10).1) (.skip)))))))))))) (lk (.seq (.region (⟨_,by cbv⟩:RL [77,1003007] [] 28 11).1) (w ([o 4 (.mv (.c (.bl true)))]) (.ret)))))))⟩
def T.gf:=t1 [77,1003007] [] 28 F.gf (by kernel_rfl)
def R.bI:C 148:=⟨_,by cbv⟩
def R.vI:C 191:=⟨_,by cbv⟩
def F.nr:cM:=
 ⟨51,[.load true 76 (x 6),.mv (x 7),.mv (x 8)],.seq (.region (⟨_,by cbv⟩:D 197 0).1) (.seq (.seq (.region (⟨_,by cbv⟩:D 197 1).1) (.cond (x 13) (.seq (.region (⟨_,by cbv⟩:D 197 2).1) (.ret)) (.skip))) (.seq (.seq (.region (⟨_,by cbv⟩:D 197 3).1) (.cond (x 22) (.seq (.region (⟨_,by cbv⟩:D 197 4).1) (.ret)) (.skip))) (.seq (.region (⟨_,by cbv⟩:D 197 5).1) (.seq (w ([m 41 10,o 42 (.bin .neq .no (x 41) (i 0))]) (.cond (x 42) (.seq (.region (⟨_,by cbv⟩:D 197 7).1) (.ret)) (.skip))) (.seq (.region (⟨_,by cbv⟩:D 197 8).1) (.seq (.region (⟨_,by cbv⟩:D 197 9).1) (.ret)))))))⟩
def T.nr:= @t0 197 F.nr (by kernel_rfl)
def F.vC:cM:=
 ⟨33,[.load true 16 (x 8)],.seq (.region (⟨_,by cbv⟩:D 321 0).1) (.seq (.region (⟨_,by cbv⟩:D 321 1).1) (.seq (.region (⟨_,by cbv⟩:D 321 2).1) (.ret)))⟩
def T.vC:= @t0 321 F.vC (by kernel_rfl)
def F.oa:cM:=
 ⟨88,[],.seq (.region (⟨_,by cbv⟩:D 360 0).1) (.seq (.region (⟨_,by cbv⟩:D 360 1).1) (.seq (.region (⟨_,by cbv⟩:D 360 2).1) (.seq (.region (⟨_,by cbv⟩:D 360 3).1) (.seq (.region (⟨_,by cbv⟩:D 360 4).1) (.seq (.region (⟨_,by cbv⟩:D 360 5).1) (.seq (.region (⟨_,by cbv⟩:D 360 6).1) (.region (⟨_,by cbv⟩:D 360 7).1)))))))⟩
def T.oa:= @t0 360 F.oa (by kernel_rfl)
def R.jB:C 35:=⟨_,by cbv⟩
def R.bB:C 53:=⟨_,by cbv⟩
def R.rY:C 77:=⟨_,by cbv⟩
def R.se:C 101:=⟨_,by cbv⟩
def R.lq:C 155:=⟨_,by cbv⟩
def F.mI:cM:=
 ⟨31,[.mv (x 2)],w ([u 1 (.box (x 0)),o 2 (.mv (.c (.bl false)))]) (w ([o 3 (.mv (i 32))]) (.seq (.seq (.region (⟨_,by cbv⟩:RL [] [29] 173 2).1) (.cond (x 6) (.region [o 3 (.mv (i 128))]) (.skip))) (.seq (.region (⟨_,by cbv⟩:RL [] [29] 173 4).1) (.ret))))⟩
def T.mI:=t1 [] [29] 173 F.mI (by kernel_rfl)
def R.oX:C 258:=⟨_,by cbv⟩
def R.ee:C 302:=⟨_,by cbv⟩
def R.tX:C 355:=⟨_,by cbv⟩
def R.pj:C 361:=⟨_,by cbv⟩
def R.br:C 383:=⟨_,by cbv⟩
def R.jJ:C 17:=⟨_,by cbv⟩
def R.jr:C 36:=⟨_,by cbv⟩
def R.nH:C 42:=⟨_,by cbv⟩
def R.gK:C 48:=⟨_,by cbv⟩
def R.oc:C 54:=⟨_,by cbv⟩
def R.mf:C 60:=⟨_,by cbv⟩
def R.fO:C 90:=⟨_,by cbv⟩
def R.xu:C 102:=⟨_,by cbv⟩
def F.ef:cM:=
 ⟨61,[],.seq (.regionD (⟨_,by cbv⟩:D 114 0).1 [0,1,2,3,4,5,6,7,8,9,10,11,12,13,14,15,16,17,18] [1,2,4,5,6,7,8,10,15]) (.seq (w ([m 26 10,o 27 (.bin .neq .no (x 26) (i 0))]) (.cond (x 27) (.ret) (.skip))) (.seq (.regionD (⟨_,by cbv⟩:D 114 2).1 [0,1,2,3,4,5,6,7,8,9,10,11,12,13,14,15,16,17,18,19,20,21,22,23,24,25,26,27] []) (.seq (.region (⟨_,by cbv⟩:D 114 3).1) (.region (⟨_,by cbv⟩:D 114 4).1))))⟩
def T.ef:= @t0 114 F.ef (by kernel_rfl)
def R.kJ:C 265:=⟨_,by cbv⟩
def R.lp:C 290:=⟨_,by cbv⟩
def R.cB:C 323:=⟨_,by cbv⟩
def R.qI:C 6:=⟨_,by cbv⟩
def F.dR:cM:=
 ⟨39,[.mv (x 4)],w ([u 3 (.box (x 1)),o 4 (.mv (.c (.sl 34 [] true)))]) (.seq (.region (⟨_,by cbv⟩:RL [33] [24,22] 18 1).1) (w ([o 6 (.mv (i 0))]) (.seq (.block 0 (.loop (lk (.seq (.seq (.region (⟨_,by cbv⟩:RL [33] [24,22] 18 3).1) (.cond (x 25) (.skip) (.exit 0))) (.block 1 (.region (⟨_,by cbv⟩:RL [33] [24,22] 18 4).1)))))) (lk (.seq (.regionD (⟨_,by cbv⟩:RL [33] [24,22] 18 5).1 [0,1,2,3,4,6,7,8,5,9,10,11] [3,8,5,9]) (.ret))))))⟩
def T.dR:=t1 [33] [24,22] 18 F.dR (by kernel_rfl)
def R.jO:C 37:=⟨_,by cbv⟩
def R.iC:C 49:=⟨_,by cbv⟩
def R.fP:C 91:=⟨_,by cbv⟩
def R.jM:C 109:=⟨_,by cbv⟩
def R.rZ:RF Pg [] [19,10] 169:=⟨_,by cbv⟩
def R.oK:C 260:=⟨_,by cbv⟩
def R.gI:C 285:=⟨_,by cbv⟩
def R.tL:C 311:=⟨_,by cbv⟩
def R.ly:C 330:=⟨_,by cbv⟩
def R.kL:RF Pg [6] [] 13:=⟨_,by cbv⟩
def F.bD:cM:=
 ⟨67,[.mv (x 6),.mv (x 7)],.seq (.region (⟨_,by cbv⟩:RL [61] [50,48,47] 19 0).1) (.seq (.seq (.region (⟨_,by cbv⟩:RL [61] [50,48,47] 19 1).1) (.cond (x 13) (w ([o 6 (.mv (.c (.sl 50 [] true))),o 7 (.mv (i 1))]) (.ret)) (.skip))) (.seq (.region (⟨_,by cbv⟩:RL [61] [50,48,47] 19 3).1) (.seq (.seq (.region (⟨_,by cbv⟩:RL [61] [50,48,47] 19 4).1) (.block 0 (.loop (lk (w ([o 19 (.bin .lss .no (x 18) (x 17))]) (.seq (.cond (x 19) (.skip) (.exit 0)) (.seq (.block 1 (w ([m 20 18,m 9 20]) (.seq (.region (⟨_,by cbv⟩:RL [61] [50,48,47] 19 7).1) (.cond (x 27) (.seq (.region (⟨_,by cbv⟩:RL [61] [50,48,47] 19 8).1) (.seq (.region (⟨_,by cbv⟩:RL [61] [50,48,47] 19 9).1) (.ret))) (.skip))))) (.region [o 34 (.bin .add .no (x 18) (i 1)),m 18 34])))))))) (lk (.seq (.seq (.region (⟨_,by cbv⟩:RL [61] [50,48,47] 19 11).1) (.cond (x 37) (w ([o 6 (.mv (.c (.sl 50 [] true))),o 7 (.mv (i 12))]) (.ret)) (.skip))) (w ([o 10 (.mv (i 0))]) (.seq (.block 2 (.loop (lk (.seq (.seq (.region (⟨_,by cbv⟩:RL [61] [50,48,47] 19 14).1) (.cond (x 51) (.skip) (.exit 2))) (.block 3 (.region (⟨_,by cbv⟩:RL [61] [50,48,47] 19 15).1)))))) (lk (.seq (.regionD (⟨_,by cbv⟩:RL [61] [50,48,47] 19 16).1 [0,1,2,3,4,5,6,8,9,10,7,11,12,13,14] [3,10,7,11]) (.ret))))))))))⟩
def T.bD:=t1 [61] [50,48,47] 19 F.bD (by kernel_rfl)
def R.tQ:C 110:=⟨_,by cbv⟩
def R.gE:C 164:=⟨_,by cbv⟩
def R.qD:C 195:=⟨_,by cbv⟩
def R.dC:C 207:=⟨_,by cbv⟩
def R.tV:C 255:=⟨_,by cbv⟩
def F.eo:cM:=
 ⟨68,[.mv (x 2)],w ([o 2 (.mv (.c (.bl false)))]) (.seq (.seq (.region (⟨_,by cbv⟩:RL [] [18,19,20,23,24,25,28,29,30,36,37,38,39,40,41,42,43,44,60,61,62,63,64] 286 1).1) (.block 0 (.loop (lk (w ([o 10 (.bin .lss .no (x 9) (x 8))]) (.seq (.cond (x 10) (.skip) (.exit 0)) (.seq (.block 1 (.seq (.region (⟨_,by cbv⟩:RL [] [18,19,20,23,24,25,28,29,30,36,37,38,39,40,41,42,43,44,60,61,62,63,64] 286 3).1) (.seq (.seq (.region (⟨_,by cbv⟩:RL [] [18,19,20,23,24,25,28,29,30,36,37,38,39,40,41,42,43,44,60,61,62,63,64] 286 4).1) (.cond (x 45) (w ([o 2 (.mv (.c (.bl false)))]) (.ret)) (.skip))) (.seq (.region (⟨_,by cbv⟩:RL [] [18,19,20,23,24,25,28,29,30,36,37,38,39,40,41,42,43,44,60,61,62,63,64] 286 6).1) (.block 2 (.loop (lk (w ([o 51 (.bin .lss .no (x 50) (x 49))]) (.seq (.cond (x 51) (.skip) (.exit 2)) (.seq (.block 3 (.seq (.region (⟨_,by cbv⟩:RL [] [18,19,20,23,24,25,28,29,30,36,37,38,39,40,41,42,43,44,60,61,62,63,64] 286 8).1) (.seq (.region (⟨_,by cbv⟩:RL [] [18,19,20,23,24,25,28,29,30,36,37,38,39,40,41,42,43,44,60,61,62,63,64] 286 9).1) (.cond (x 65) (w ([o 2 (.mv (.c (.bl false)))]) (.ret)) (.skip))))) (.region [o 66 (.bin .add .no (x 50) (i 1)),m 50 66]))))))))))) (lk (.region [o 67 (.bin .add .no (x 9) (i 1)),m 9 67]))))))))) (lk (w ([o 2 (.mv (.c (.bl true)))]) (.ret))))⟩
def T.eo:=t1 [] [18,19,20,23,24,25,28,29,30,36,37,38,39,40,41,42,43,44,60,61,62,63,64] 286 F.eo (by kernel_rfl)
def R.vJ:RF Pg [23] [] 269:=⟨_,by cbv⟩
def R.sha:C 230:=⟨_,by cbv⟩
def F.ske:cM:=⟨26,[.load true 32 (x 6)],.seq (.region (⟨_,by cbv⟩:RL [17,18,1003007] [] 223 0).1) (.seq (.regionE (⟨_,by cbv⟩:RL [17,18,1003007] [] 223 1).1 [0,1,2,4,5,6] 3 7 [8,9,10,11,12,13,14,15] [1,2,7]) (.seq (.region (⟨_,by cbv⟩:RL [17,18,1003007] [] 223 2).1) (w ([o 25 (.load true 32 (x 8)),s 32 6 25]) (.ret))))⟩
def T.ske:=t1 [17,18,1003007] [] 223 F.ske (by kernel_rfl)
def F.S6:cM:=⟨39,[],.seq (.region (⟨_,by cbv⟩:RL [] [33,34] 112 0).1) (.cond (x 35) (.region (⟨_,by cbv⟩:RL [] [33,34] 112 1).1) (.skip))⟩
def T.S6:=t1 [] [33,34] 112 F.S6 (by kernel_rfl)
def R.ND:C 157:=⟨_,by cbv⟩
end Go.Ab
